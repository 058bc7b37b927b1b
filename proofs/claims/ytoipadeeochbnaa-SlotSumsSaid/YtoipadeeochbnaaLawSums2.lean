import Derived.Test.YtoipadeeochbnaaLawSums
namespace Go.Proofs.Ytoipadeeochbnaa
open Go.RowKit Mix
set_option linter.unusedVariables false
attribute [local go_sem] Mix.calm Oper.quietUpon
set_option pp.maxSteps 100000 in
set_option pp.deepTerms true in
set_option maxHeartbeats 2000000 in
set_option maxRecDepth 100000 in
theorem SlotSums_walk (a0 a1 a2 a3 a4 a5 : Int) (g0 : 0 ≤ a0 ∧ a0 ≤ 65535) (g1 : 0 ≤ a1 ∧ a1 ≤ 65535) (g2 : 0 ≤ a2 ∧ a2 ≤ 255) (g3 : 0 ≤ a3 ∧ a3 ≤ 255) (g4 : 0 ≤ a4 ∧ a4 ≤ 255) (g5 : 0 ≤ a5 ∧ a5 ≤ 255) (w : World) :
    Calls Try.prog 9 #[.int .u16 a0, .int .u16 a1, .int .u8 a2, .int .u8 a3, .int .u8 a4, .int .u8 a5] w fun e w' => e = .returned (.bool true) ∧ Ext w w' := by
  have hP := Public_any a0 a1 a2 a3 a4 a5 g0 g1 g2 g3 g4 g5
  generalize a0 % 300 = W at hP
  generalize a1 % 300 = H at hP
  generalize a2 % 6 = M at hP
  generalize a3 % 103 = Qu at hP
  generalize a4 % 30 = I at hP
  generalize a5 % 6 - 1 = C at hP
  have hck := checkV_bd W H M Qu I C
  by_cases h : checkV W H M Qu I C = 0
  case neg =>
    have h' : (checkV W H M Qu I C == 0) = false := by simpa using h
    go_enter Try.func9, Try.ntmps9
    go_wp2_with fail
    refine (hP _).mono ?_
    rintro e w1 ⟨rfl, hE1⟩
    go_wp2_with (first | (go_at_call 47; refine (Check_any _ _ _ _ _ _ _).mono ?_; intro e w2 h; have he := h.1; have hE := h.2; clear h; subst he; have hz := hE.size; (try simp at hz); have hcc := hE.cells (w1.heap.size + 1) (by first | omega | (simp; done) | (simp; omega)); have hff := hE.marks (w1.heap.size + 1) (by first | omega | (simp; done) | (simp; omega)); have hss := hE.sizes (w1.heap.size + 1) (by first | omega | (simp; done) | (simp; omega)); have hgg := hE.rules.1; have hhh := hE.rules.2) | (go_at_call 41; refine (known14_any _).mono ?_; intro e w2 h; have he := h.1; have hE := h.2; clear h; subst he; have hz := hE.size; (try simp at hz); have hcc := hE.cells (w1.heap.size + 1) (by first | omega | (simp; done) | (simp; omega)); have hff := hE.marks (w1.heap.size + 1) (by first | omega | (simp; done) | (simp; omega)); have hss := hE.sizes (w1.heap.size + 1) (by first | omega | (simp; done) | (simp; omega)); have hgg := hE.rules.1; have hhh := hE.rules.2))
    go_ret
    exact ⟨rfl, by (repeat' (first | exact Ext.refl _ | assumption | refine Ext.alloc' ?_ _ | (refine Ext.set' ?_ (by first | omega | (simp; done) | (simp; omega)) _) | refine Ext.drew' ?_ | refine Ext.drewN' ?_ _ | refine Ext.trans ?_ (by assumption)))⟩
  have h' : (checkV W H M Qu I C == 0) = true := by simpa using h
  have fit := fits_of h
  obtain ⟨n1, n2, n3⟩ := inter_facts fit
  have hib := interV_bd W H M I
  obtain ⟨s1, s2, s3⟩ := sum_last fit
  obtain ⟨r1, r2, r3, r4, r5⟩ := room_facts fit
  have rb := roomV_bd W H M I C
  have rb2 := roomV_bd W H M I (minV (C + 1) 3)
  have hfc := fit.c
  have hnp := nP_pos fit
  have b00 := block_facts fit 0 (by omega) (by omega)
  have sb := sum_bd fit (interV W H M I) (by omega)
  have esl : slotV W H M I C = roomV W H M I C + 2 := by unfold slotV; rw [if_pos r2]
  go_enter Try.func9, Try.ntmps9
  go_wp2_with fail
  refine (hP _).mono ?_
  rintro e w1 ⟨rfl, hE1⟩
  go_wp2_with (first | (go_at_call 47; refine (Check_any _ _ _ _ _ _ _).mono ?_; intro e w2 h; have he := h.1; have hE := h.2; clear h; subst he; have hz := hE.size; (try simp at hz); have hcc := hE.cells (w1.heap.size + 1) (by first | omega | (simp; done) | (simp; omega)); have hff := hE.marks (w1.heap.size + 1) (by first | omega | (simp; done) | (simp; omega)); have hss := hE.sizes (w1.heap.size + 1) (by first | omega | (simp; done) | (simp; omega)); have hgg := hE.rules.1; have hhh := hE.rules.2) | (go_at_call 51; refine (Intervals_any _ _ _ _ _ _ _).mono ?_; intro e w3 h; have he := h.1; have hE := h.2; clear h; subst he; have hz := hE.size; (try simp at hz); have hcc := hE.cells (w1.heap.size + 1) (by first | omega | (simp; done) | (simp; omega)); have hff := hE.marks (w1.heap.size + 1) (by first | omega | (simp; done) | (simp; omega)); have hss := hE.sizes (w1.heap.size + 1) (by first | omega | (simp; done) | (simp; omega)); have hgg := hE.rules.1; have hhh := hE.rules.2))
  have hsz3 : w1.heap.size + 1 ≤ w3.heap.size := by omega
  go_loopw [15, 16] (fun s i wr => ∃ k : Nat, (k : Int) ≤ interV W H M I ∧ s = .int .i64 (sumV W H M I k) ∧ i = .int .i64 k ∧ Ext w3 wr) (fun _ i _ => (interV W H M I).toNat - (intOf i).toNat)
  case atStart =>
    refine ⟨0, by omega, ?_, rfl, Ext.refl _⟩
    have e0 : sumV W H M I ((0 : Nat) : Int) = 0 := by
      have := mcus_pos fit
      have e : ((0 : Nat) : Int) * I = 0 := by simp
      unfold sumV minV
      rw [e, if_neg (by omega), Int.zero_mul]
    rw [e0]
  case round =>
    obtain ⟨k, hk, rfl, rfl, hEr⟩ := hrel
    have hzr := hEr.size
    have hcr := hEr.cells (w1.heap.size + 1) hsz3
    have hfr := hEr.marks (w1.heap.size + 1) hsz3
    have hsr := hEr.sizes (w1.heap.size + 1) hsz3
    have hgr := hEr.rules.1
    have hhr := hEr.rules.2
    by_cases hlt : (k : Int) < interV W H M I
    · obtain ⟨b1, b2, b3, b4, b5⟩ := block_facts fit k (by omega) hlt
      have sb1 := sum_bd fit k (by omega)
      have sb2 := sum_bd fit (k + 1) (by omega)
      have t1 : decide (blocksV W H M I k < 1) = false := by simp; omega
      have t2 : decide (blocksV W H M I 0 < blocksV W H M I k) = false := by simp; omega
      by_cases hl : (k : Int) < interV W H M I - 1
      · have t3 : (blocksV W H M I k == blocksV W H M I 0) = true := by simp [b3 hl]
        have t4 : decide ((k : Int) < interV W H M I - 1) = true := by simpa using hl
        clear n1 n2 n3 s1 s2 s3 r1 r2 r3 r4 r5 esl fit
        go_wp2_with ((go_at_call 52; refine (Blocks_any _ _ _ _ _ _ _ _).mono ?_; intro e w4 h; have he := h.1; have hE := h.2; clear h; subst he; have hz := hE.size; (try simp at hz); have hcc := hE.cells (w1.heap.size + 1) (by first | omega | (simp; done) | (simp; omega)); have hff := hE.marks (w1.heap.size + 1) (by first | omega | (simp; done) | (simp; omega)); have hss := hE.sizes (w1.heap.size + 1) (by first | omega | (simp; done) | (simp; omega)); have hgg := hE.rules.1; have hhh := hE.rules.2))
        go_roundw
        case rel =>
          have e : sumV W H M I ((k + 1 : Nat) : Int) = sumV W H M I k + blocksV W H M I 0 := by rw [← b3 hl]; exact b5
          exact ⟨k + 1, by omega, by rw [e], by go_num, by (repeat' (first | exact Ext.refl _ | assumption | refine Ext.alloc' ?_ _ | (refine Ext.set' ?_ (by first | omega | (simp; done) | (simp; omega)) _) | refine Ext.drew' ?_ | refine Ext.drewN' ?_ _ | refine Ext.trans ?_ (by assumption)))⟩
        case measure => simp [intOf]; omega
      · have t4 : decide ((k : Int) < interV W H M I - 1) = false := by simpa using hl
        clear n1 n2 n3 s1 s2 s3 r1 r2 r3 r4 r5 esl fit
        go_wp2_with ((go_at_call 52; refine (Blocks_any _ _ _ _ _ _ _ _).mono ?_; intro e w4 h; have he := h.1; have hE := h.2; clear h; subst he; have hz := hE.size; (try simp at hz); have hcc := hE.cells (w1.heap.size + 1) (by first | omega | (simp; done) | (simp; omega)); have hff := hE.marks (w1.heap.size + 1) (by first | omega | (simp; done) | (simp; omega)); have hss := hE.sizes (w1.heap.size + 1) (by first | omega | (simp; done) | (simp; omega)); have hgg := hE.rules.1; have hhh := hE.rules.2))
        go_roundw
        case rel => exact ⟨k + 1, by omega, by rw [← b5]; rfl, by go_num, by (repeat' (first | exact Ext.refl _ | assumption | refine Ext.alloc' ?_ _ | (refine Ext.set' ?_ (by first | omega | (simp; done) | (simp; omega)) _) | refine Ext.drew' ?_ | refine Ext.drewN' ?_ _ | refine Ext.trans ?_ (by assumption)))⟩
        case measure => simp [intOf]; omega
    · have hkn : (k : Int) = interV W H M I := by omega
      have hw1r : w1.heap.size < wr.heap.size := by omega
      rw [hkn]
      rw [hkn] at hlt
      have q1 : decide (0 < mcusV W H M * (nP M : Int)) = true := by simp; omega
      have q2 : ((nP M : Int) == 0) = false := by simp; omega
      have q3 : decide (roomV W H M I C ≤ roomV W H M I (minV (C + 1) 3)) = true := by simpa using r1
      have q4 : decide (reserveV M 0 (blocksV W H M I 0) ≤ 4 * roomV W H M I C) = true := by simpa using r3
      rw [s1] at sb ⊢
      obtain ⟨_, b01, _, b02, _⟩ := b00
      clear n1 n2 n3 s1 r1 r3 fit hP h
      by_cases hc3 : 3 < C + 1
      · have e3 : minV (C + 1) 3 = 3 := by unfold minV; rw [if_pos hc3]
        rw [e3] at q3 rb2
        go_wp2_with ((go_at_call 52; refine (Blocks_any _ _ _ _ _ _ _ _).mono ?_; intro e w4 h; have he := h.1; have hE := h.2; clear h; subst he; have hz := hE.size; (try simp at hz); have hc9 := hE.cells (wr.heap.size + 1) (by first | omega | (simp; done) | (simp; omega)); have hf9 := hE.marks (wr.heap.size + 1) (by first | omega | (simp; done) | (simp; omega)); have hs9 := hE.sizes (wr.heap.size + 1) (by first | omega | (simp; done) | (simp; omega)); have hg9 := hE.rules.1; have hh9 := hE.rules.2))
        have hw1r' : w1.heap.size < wr.heap.size + 1 := by omega
        have hw4a : wr.heap.size + 1 ≤ w4.heap.size := by omega
        have hw4b : w1.heap.size < w4.heap.size := by omega
        have hw4c : wr.heap.size < w4.heap.size := by omega
        refine Mix.wp_region_mixX (wr.heap.size + 1) (.c 0 (.c 1 (.c 2 (.c 3 (.c 4 (.c 5 (.c 6 (.c 7 (.c 8 (.e 9 (.c 10 (.c 11 (.c 12 (.c 13 (.c 14 (.c 15 (.c 16 (.c 17 (.c 18 (.c 19 (.c 20 (.c 21 (.c 22 (.c 23 (.c 24 (.c 25 (.c 26 (.c 27 (.c 28 (.c 29 (.c 30 (.c 31 (.c 32 (.c 33 (.c 34 (.c 35 (.c 36 (.c 37 (.c 38 (.c 39 (.c 40 (.c 41 (.c 42 (.c 43 (.c 44 .done))))))))))))))))))))))))))))))))))))))))))))) (by kernel_rfl) (by kernel_rfl) (by first | omega | (simp; done) | (simp; omega)) (fun hap hapf => ?_)
        repeat (refine Mix.mix_q rfl rfl rfl (fun K hK => ?_); (conv => arg 2; whnf); (first | (go_big_quiet_op; refine hK _ ?_) | (go_simp; refine hK _ ?_)); clear hK K)
        (refine Mix.mix_c rfl rfl (fun K hK => ?_); (conv => arg 2; whnf); go_simp; apply Exists.intro; refine ⟨fun _ => ?_, hK _ ?_⟩; exact known14_any _; clear hK K)
        repeat (refine Mix.mix_q rfl rfl rfl (fun K hK => ?_); (conv => arg 2; whnf); (first | (go_big_quiet_op; refine hK _ ?_) | (go_simp; refine hK _ ?_)); clear hK K)
        refine Mix.mix_one rfl rfl (fun w5 hE5 K hK => ?_)
        (conv => arg 2; whnf)
        have hz5 := hE5.size
        (try simp at hz5)
        have hc5 := hE5.cells (wr.heap.size + 1) (by first | omega | (simp; done) | (simp; omega)); have hf5 := hE5.marks (wr.heap.size + 1) (by first | omega | (simp; done) | (simp; omega)); have hs5 := hE5.sizes (wr.heap.size + 1) (by first | omega | (simp; done) | (simp; omega)); have hg5 := hE5.rules.1; have hh5 := hE5.rules.2
        go_big_op
        refine (Parts_any M _).mono ?_
        rintro e w6 ⟨a, cap, rfl, hqa, hE6⟩
        clear hqa
        have hz6 := hE6.size
        have hc6 := hE6.cells (wr.heap.size + 1) (by first | omega | (simp; done) | (simp; omega)); have hf6 := hE6.marks (wr.heap.size + 1) (by first | omega | (simp; done) | (simp; omega)); have hs6 := hE6.sizes (wr.heap.size + 1) (by first | omega | (simp; done) | (simp; omega)); have hg6 := hE6.rules.1; have hh6 := hE6.rules.2
        (refine hK _ _ (Mix.ext_ap (by (repeat' (first | exact Ext.refl _ | assumption | refine Ext.alloc' ?_ _ | (refine Ext.set' ?_ (by first | omega | (simp; done) | (simp; omega)) _) | refine Ext.drew' ?_ | refine Ext.drewN' ?_ _ | refine Ext.trans ?_ (by assumption))))) ?_; clear hK K)
        repeat (refine Mix.mix_q rfl rfl rfl (fun K hK => ?_); (conv => arg 2; whnf); (first | (go_big_quiet_op; refine hK _ ?_) | (go_simp; refine hK _ ?_)); clear hK K)
        (refine Mix.mix_c rfl rfl (fun K hK => ?_); (conv => arg 2; whnf); go_simp; apply Exists.intro; refine ⟨fun _ => ?_, hK _ ?_⟩; exact Blocks_any _ _ _ _ _ _ _ _; clear hK K)
        repeat (refine Mix.mix_q rfl rfl rfl (fun K hK => ?_); (conv => arg 2; whnf); (first | (go_big_quiet_op; refine hK _ ?_) | (go_simp; refine hK _ ?_)); clear hK K)
        (refine Mix.mix_c rfl rfl (fun K hK => ?_); (conv => arg 2; whnf); go_simp; apply Exists.intro; refine ⟨fun _ => ?_, hK _ ?_⟩; exact Room_any _ _ _ _ _ _ _; clear hK K)
        repeat (refine Mix.mix_q rfl rfl rfl (fun K hK => ?_); (conv => arg 2; whnf); (first | (go_big_quiet_op; refine hK _ ?_) | (go_simp; refine hK _ ?_)); clear hK K)
        (refine Mix.mix_c rfl rfl (fun K hK => ?_); (conv => arg 2; whnf); go_simp; apply Exists.intro; refine ⟨fun _ => ?_, hK _ ?_⟩; exact Room_any _ _ _ _ _ _ _; clear hK K)
        repeat (refine Mix.mix_q rfl rfl rfl (fun K hK => ?_); (conv => arg 2; whnf); (first | (go_big_quiet_op; refine hK _ ?_) | (go_simp; refine hK _ ?_)); clear hK K)
        (refine Mix.mix_c rfl rfl (fun K hK => ?_); (conv => arg 2; whnf); go_simp; apply Exists.intro; refine ⟨fun _ => ?_, hK _ ?_⟩; exact Room_any _ _ _ _ _ _ _; clear hK K)
        repeat (refine Mix.mix_q rfl rfl rfl (fun K hK => ?_); (conv => arg 2; whnf); (first | (go_big_quiet_op; refine hK _ ?_) | (go_simp; refine hK _ ?_)); clear hK K)
        (refine Mix.mix_c rfl rfl (fun K hK => ?_); (conv => arg 2; whnf); go_simp; apply Exists.intro; refine ⟨fun _ => ?_, hK _ ?_⟩; exact Reserve_any _ _ _ _ _ _ _ _ _; clear hK K)
        repeat (refine Mix.mix_q rfl rfl rfl (fun K hK => ?_); (conv => arg 2; whnf); (first | (go_big_quiet_op; refine hK _ ?_) | (go_simp; refine hK _ ?_)); clear hK K)
        (refine Mix.mix_c rfl rfl (fun K hK => ?_); (conv => arg 2; whnf); go_simp; apply Exists.intro; refine ⟨fun _ => ?_, hK _ ?_⟩; exact Slot_any _ _ _ _ _ _ _; clear hK K)
        rw [esl]
        repeat (refine Mix.mix_q rfl rfl rfl (fun K hK => ?_); (conv => arg 2; whnf); (first | (go_big_quiet_op; refine hK _ ?_) | (go_simp; refine hK _ ?_)); clear hK K)
        (refine Mix.mix_c rfl rfl (fun K hK => ?_); (conv => arg 2; whnf); go_simp; apply Exists.intro; refine ⟨fun _ => ?_, hK _ ?_⟩; exact Room_any _ _ _ _ _ _ _; clear hK K)
        repeat (refine Mix.mix_q rfl rfl rfl (fun K hK => ?_); (conv => arg 2; whnf); (first | (go_big_quiet_op; refine hK _ ?_) | (go_simp; refine hK _ ?_)); clear hK K)
        (refine Mix.mix_nil (fun w2 hE2 => ?_); clear hap hapf; dsimp only [Exit.then])
        go_wp2
        go_ret
        exact ⟨rfl, by (repeat' (first | exact Ext.refl _ | assumption | refine Ext.alloc' ?_ _ | (refine Ext.set' ?_ (by first | omega | (simp; done) | (simp; omega)) _) | refine Ext.drew' ?_ | refine Ext.drewN' ?_ _ | refine Ext.trans ?_ (by assumption)))⟩
      · have e3 : minV (C + 1) 3 = C + 1 := by unfold minV; rw [if_neg hc3]
        rw [e3] at q3 rb2
        go_wp2_with ((go_at_call 52; refine (Blocks_any _ _ _ _ _ _ _ _).mono ?_; intro e w4 h; have he := h.1; have hE := h.2; clear h; subst he; have hz := hE.size; (try simp at hz); have hc9 := hE.cells (wr.heap.size + 1) (by first | omega | (simp; done) | (simp; omega)); have hf9 := hE.marks (wr.heap.size + 1) (by first | omega | (simp; done) | (simp; omega)); have hs9 := hE.sizes (wr.heap.size + 1) (by first | omega | (simp; done) | (simp; omega)); have hg9 := hE.rules.1; have hh9 := hE.rules.2))
        have hw1r' : w1.heap.size < wr.heap.size + 1 := by omega
        have hw4a : wr.heap.size + 1 ≤ w4.heap.size := by omega
        have hw4b : w1.heap.size < w4.heap.size := by omega
        have hw4c : wr.heap.size < w4.heap.size := by omega
        refine Mix.wp_region_mixX (wr.heap.size + 1) (.c 0 (.c 1 (.c 2 (.c 3 (.c 4 (.c 5 (.c 6 (.c 7 (.c 8 (.e 9 (.c 10 (.c 11 (.c 12 (.c 13 (.c 14 (.c 15 (.c 16 (.c 17 (.c 18 (.c 19 (.c 20 (.c 21 (.c 22 (.c 23 (.c 24 (.c 25 (.c 26 (.c 27 (.c 28 (.c 29 (.c 30 (.c 31 (.c 32 (.c 33 (.c 34 (.c 35 (.c 36 (.c 37 (.c 38 (.c 39 (.c 40 (.c 41 (.c 42 (.c 43 (.c 44 .done))))))))))))))))))))))))))))))))))))))))))))) (by kernel_rfl) (by kernel_rfl) (by first | omega | (simp; done) | (simp; omega)) (fun hap hapf => ?_)
        repeat (refine Mix.mix_q rfl rfl rfl (fun K hK => ?_); (conv => arg 2; whnf); (first | (go_big_quiet_op; refine hK _ ?_) | (go_simp; refine hK _ ?_)); clear hK K)
        (refine Mix.mix_c rfl rfl (fun K hK => ?_); (conv => arg 2; whnf); go_simp; apply Exists.intro; refine ⟨fun _ => ?_, hK _ ?_⟩; exact known14_any _; clear hK K)
        repeat (refine Mix.mix_q rfl rfl rfl (fun K hK => ?_); (conv => arg 2; whnf); (first | (go_big_quiet_op; refine hK _ ?_) | (go_simp; refine hK _ ?_)); clear hK K)
        refine Mix.mix_one rfl rfl (fun w5 hE5 K hK => ?_)
        (conv => arg 2; whnf)
        have hz5 := hE5.size
        (try simp at hz5)
        have hc5 := hE5.cells (wr.heap.size + 1) (by first | omega | (simp; done) | (simp; omega)); have hf5 := hE5.marks (wr.heap.size + 1) (by first | omega | (simp; done) | (simp; omega)); have hs5 := hE5.sizes (wr.heap.size + 1) (by first | omega | (simp; done) | (simp; omega)); have hg5 := hE5.rules.1; have hh5 := hE5.rules.2
        go_big_op
        refine (Parts_any M _).mono ?_
        rintro e w6 ⟨a, cap, rfl, hqa, hE6⟩
        clear hqa
        have hz6 := hE6.size
        have hc6 := hE6.cells (wr.heap.size + 1) (by first | omega | (simp; done) | (simp; omega)); have hf6 := hE6.marks (wr.heap.size + 1) (by first | omega | (simp; done) | (simp; omega)); have hs6 := hE6.sizes (wr.heap.size + 1) (by first | omega | (simp; done) | (simp; omega)); have hg6 := hE6.rules.1; have hh6 := hE6.rules.2
        (refine hK _ _ (Mix.ext_ap (by (repeat' (first | exact Ext.refl _ | assumption | refine Ext.alloc' ?_ _ | (refine Ext.set' ?_ (by first | omega | (simp; done) | (simp; omega)) _) | refine Ext.drew' ?_ | refine Ext.drewN' ?_ _ | refine Ext.trans ?_ (by assumption))))) ?_; clear hK K)
        repeat (refine Mix.mix_q rfl rfl rfl (fun K hK => ?_); (conv => arg 2; whnf); (first | (go_big_quiet_op; refine hK _ ?_) | (go_simp; refine hK _ ?_)); clear hK K)
        (refine Mix.mix_c rfl rfl (fun K hK => ?_); (conv => arg 2; whnf); go_simp; apply Exists.intro; refine ⟨fun _ => ?_, hK _ ?_⟩; exact Blocks_any _ _ _ _ _ _ _ _; clear hK K)
        repeat (refine Mix.mix_q rfl rfl rfl (fun K hK => ?_); (conv => arg 2; whnf); (first | (go_big_quiet_op; refine hK _ ?_) | (go_simp; refine hK _ ?_)); clear hK K)
        (refine Mix.mix_c rfl rfl (fun K hK => ?_); (conv => arg 2; whnf); go_simp; apply Exists.intro; refine ⟨fun _ => ?_, hK _ ?_⟩; exact Room_any _ _ _ _ _ _ _; clear hK K)
        repeat (refine Mix.mix_q rfl rfl rfl (fun K hK => ?_); (conv => arg 2; whnf); (first | (go_big_quiet_op; refine hK _ ?_) | (go_simp; refine hK _ ?_)); clear hK K)
        (refine Mix.mix_c rfl rfl (fun K hK => ?_); (conv => arg 2; whnf); go_simp; apply Exists.intro; refine ⟨fun _ => ?_, hK _ ?_⟩; exact Room_any _ _ _ _ _ _ _; clear hK K)
        repeat (refine Mix.mix_q rfl rfl rfl (fun K hK => ?_); (conv => arg 2; whnf); (first | (go_big_quiet_op; refine hK _ ?_) | (go_simp; refine hK _ ?_)); clear hK K)
        (refine Mix.mix_c rfl rfl (fun K hK => ?_); (conv => arg 2; whnf); go_simp; apply Exists.intro; refine ⟨fun _ => ?_, hK _ ?_⟩; exact Room_any _ _ _ _ _ _ _; clear hK K)
        repeat (refine Mix.mix_q rfl rfl rfl (fun K hK => ?_); (conv => arg 2; whnf); (first | (go_big_quiet_op; refine hK _ ?_) | (go_simp; refine hK _ ?_)); clear hK K)
        (refine Mix.mix_c rfl rfl (fun K hK => ?_); (conv => arg 2; whnf); go_simp; apply Exists.intro; refine ⟨fun _ => ?_, hK _ ?_⟩; exact Reserve_any _ _ _ _ _ _ _ _ _; clear hK K)
        repeat (refine Mix.mix_q rfl rfl rfl (fun K hK => ?_); (conv => arg 2; whnf); (first | (go_big_quiet_op; refine hK _ ?_) | (go_simp; refine hK _ ?_)); clear hK K)
        (refine Mix.mix_c rfl rfl (fun K hK => ?_); (conv => arg 2; whnf); go_simp; apply Exists.intro; refine ⟨fun _ => ?_, hK _ ?_⟩; exact Slot_any _ _ _ _ _ _ _; clear hK K)
        rw [esl]
        repeat (refine Mix.mix_q rfl rfl rfl (fun K hK => ?_); (conv => arg 2; whnf); (first | (go_big_quiet_op; refine hK _ ?_) | (go_simp; refine hK _ ?_)); clear hK K)
        (refine Mix.mix_c rfl rfl (fun K hK => ?_); (conv => arg 2; whnf); go_simp; apply Exists.intro; refine ⟨fun _ => ?_, hK _ ?_⟩; exact Room_any _ _ _ _ _ _ _; clear hK K)
        repeat (refine Mix.mix_q rfl rfl rfl (fun K hK => ?_); (conv => arg 2; whnf); (first | (go_big_quiet_op; refine hK _ ?_) | (go_simp; refine hK _ ?_)); clear hK K)
        (refine Mix.mix_nil (fun w2 hE2 => ?_); clear hap hapf; dsimp only [Exit.then])
        go_wp2
        go_ret
        exact ⟨rfl, by (repeat' (first | exact Ext.refl _ | assumption | refine Ext.alloc' ?_ _ | (refine Ext.set' ?_ (by first | omega | (simp; done) | (simp; omega)) _) | refine Ext.drew' ?_ | refine Ext.drewN' ?_ _ | refine Ext.trans ?_ (by assumption)))⟩
end Go.Proofs.Ytoipadeeochbnaa
