import Derived.Test.YtoipadeeochbnaaSlot1
namespace Go.Proofs.Ytoipadeeochbnaa
open Go.RowKit Mix
attribute [local go_sem] Mix.calm Oper.quietUpon
theorem ceil_law (n d : Int) (hd : 1 ≤ d) : (n + d - 1) / d = if n / d * d < n then n / d + 1 else n / d := by
  have h1 := Int.mul_ediv_add_emod n d
  have h2 := Int.emod_nonneg n (show d ≠ 0 by omega)
  have h3 := Int.emod_lt_of_pos n (show 0 < d by omega)
  rw [Int.mul_comm] at h1
  generalize n / d = k at *
  generalize n % d = r at *
  have e : n + d - 1 = (r + d - 1) + k * d := by omega
  rw [e, Int.add_mul_ediv_right _ _ (by omega)]
  by_cases hr : r = 0
  · rw [if_neg (by omega), hr, Int.ediv_eq_zero_of_lt (by omega) (by omega)]; omega
  · rw [if_pos (by omega)]
    have : (r + d - 1) / d = 1 := by
      have h4 : r + d - 1 = (r - 1) + 1 * d := by omega
      rw [h4, Int.add_mul_ediv_right _ _ (by omega), Int.ediv_eq_zero_of_lt (by omega) (by omega)]; omega
    omega
theorem RCeil_any (n d : Int) (w : World) : Calls Try.prog 163 #[.int .i64 n, .int .i64 d] w fun e w' => e = .returned (.int .i64 (ceilV n d)) ∧ w = w' := by
  by_cases h1 : 0 ≤ n
  case neg =>
    have e1 : ceilV n d = 0 := by unfold ceilV; rw [if_neg (by omega)]
    rw [e1]
    have h' : decide (n < 0) = true := by simpa using h1
    go_enter Try.func163, Try.ntmps163
    go_wp2
    go_ret
    exact ⟨rfl, rfl⟩
  have h1' : decide (n < 0) = false := by simpa using h1
  by_cases h2 : n ≤ 1099511627776
  case neg =>
    have e1 : ceilV n d = 0 := by unfold ceilV; rw [if_neg (by omega)]
    rw [e1]
    have h' : decide (1099511627776 < n) = true := by simpa using h2
    go_enter Try.func163, Try.ntmps163
    go_wp2
    go_ret
    exact ⟨rfl, rfl⟩
  have h2' : decide (1099511627776 < n) = false := by simpa using h2
  by_cases h3 : 1 ≤ d
  case neg =>
    have e1 : ceilV n d = 0 := by unfold ceilV; rw [if_neg (by omega)]
    rw [e1]
    have h' : decide (d < 1) = true := by simp; omega
    go_enter Try.func163, Try.ntmps163
    go_wp2
    go_ret
    exact ⟨rfl, rfl⟩
  have h3' : decide (d < 1) = false := by simp; omega
  by_cases h4 : d ≤ 1099511627776
  case neg =>
    have e1 : ceilV n d = 0 := by unfold ceilV; rw [if_neg (by omega)]
    rw [e1]
    have h' : decide (1099511627776 < d) = true := by simpa using h4
    go_enter Try.func163, Try.ntmps163
    go_wp2
    go_ret
    exact ⟨rfl, rfl⟩
  have h4' : decide (1099511627776 < d) = false := by simpa using h4
  have e1 : ceilV n d = if n / d * d < n then n / d + 1 else n / d := by unfold ceilV; rw [if_pos ⟨h1, h2, h3, h4⟩, ceil_law n d h3]
  have hq0 : 0 ≤ n / d := Int.ediv_nonneg h1 (by omega)
  have hq1 : n / d ≤ n := Int.ediv_le_self _ h1
  have hp0 : 0 ≤ n / d * d := Int.mul_nonneg hq0 (by omega)
  have hp1 : n / d * d ≤ n := Int.ediv_mul_le n (by omega)
  have ht : n.tdiv d = n / d := Int.tdiv_eq_ediv_of_nonneg h1
  have hd0 : (d == 0) = false := by simp; omega
  by_cases hlt : n / d * d < n
  · rw [e1, if_pos hlt]
    have hlt' : decide (n / d * d < n) = true := by simpa using hlt
    clear e1 hlt
    go_enter Try.func163, Try.ntmps163
    go_wp2
    go_ret
    exact ⟨rfl, rfl⟩
  · rw [e1, if_neg hlt]
    have hlt' : decide (n / d * d < n) = false := by simpa using hlt
    clear e1 hlt
    go_enter Try.func163, Try.ntmps163
    go_wp2
    go_ret
    exact ⟨rfl, rfl⟩
theorem RSides1 (w : World) : Calls Try.prog 153 #[.int .i64 1] w (SidesAt w [1, 1]) := by
  go_enter Try.func153, Try.ntmps153
  go_wp2
  go_ret
  exact ⟨_, rfl, heap_new _ _ _ (by simp), by (repeat' (first | exact Ext.refl _ | assumption | refine Ext.alloc' ?_ _ | (refine Ext.set' ?_ (by first | omega | (simp; done) | (simp; omega)) _) | refine Ext.drew' ?_ | refine Ext.drewN' ?_ _ | refine Ext.trans ?_ (by assumption)))⟩
theorem RSides2 (w : World) : Calls Try.prog 153 #[.int .i64 2] w (SidesAt w [1, 1, 1, 1, 1, 1]) := by
  go_enter Try.func153, Try.ntmps153
  go_wp2
  go_ret
  exact ⟨_, rfl, heap_new _ _ _ (by simp), by (repeat' (first | exact Ext.refl _ | assumption | refine Ext.alloc' ?_ _ | (refine Ext.set' ?_ (by first | omega | (simp; done) | (simp; omega)) _) | refine Ext.drew' ?_ | refine Ext.drewN' ?_ _ | refine Ext.trans ?_ (by assumption)))⟩
theorem RSides3 (w : World) : Calls Try.prog 153 #[.int .i64 3] w (SidesAt w [2, 1, 1, 1, 1, 1]) := by
  go_enter Try.func153, Try.ntmps153
  go_wp2
  go_ret
  exact ⟨_, rfl, heap_new _ _ _ (by simp), by (repeat' (first | exact Ext.refl _ | assumption | refine Ext.alloc' ?_ _ | (refine Ext.set' ?_ (by first | omega | (simp; done) | (simp; omega)) _) | refine Ext.drew' ?_ | refine Ext.drewN' ?_ _ | refine Ext.trans ?_ (by assumption)))⟩
theorem RSides4 (w : World) : Calls Try.prog 153 #[.int .i64 4] w (SidesAt w [2, 2, 1, 1, 1, 1]) := by
  go_enter Try.func153, Try.ntmps153
  go_wp2
  go_ret
  exact ⟨_, rfl, heap_new _ _ _ (by simp), by (repeat' (first | exact Ext.refl _ | assumption | refine Ext.alloc' ?_ _ | (refine Ext.set' ?_ (by first | omega | (simp; done) | (simp; omega)) _) | refine Ext.drew' ?_ | refine Ext.drewN' ?_ _ | refine Ext.trans ?_ (by assumption)))⟩
theorem RSides0 (m : Int) (h1 : (m == 1) = false) (h2 : (m == 2) = false) (h3 : (m == 3) = false) (h4 : (m == 4) = false) (w : World) :
    Calls Try.prog 153 #[.int .i64 m] w fun e w' => e = .returned (.slice none 0 0) ∧ Ext w w' := by
  go_enter Try.func153, Try.ntmps153
  go_wp2
  go_ret
  exact ⟨rfl, by (repeat' (first | exact Ext.refl _ | assumption | refine Ext.alloc' ?_ _ | (refine Ext.set' ?_ (by first | omega | (simp; done) | (simp; omega)) _) | refine Ext.drew' ?_ | refine Ext.drewN' ?_ _ | refine Ext.trans ?_ (by assumption)))⟩

theorem RSide1 (w : World) : Calls Try.prog 178 #[.int .i64 1] w (TwoInts w (sideX 1) (sideY 1)) := by
  go_enter Try.func178, Try.ntmps178
  go_wp2_with (go_at_call 153; refine (RSides1 _).mono ?_; rintro e w1 ⟨b, rfl, hb, hE⟩; have hcb := blk_cell hb; have hbl := blk_lt hb; have hc1 := hE.cells (w.heap.size + 0) (by first | omega | (simp; done) | (simp; omega)); have hf1 := hE.marks (w.heap.size + 0) (by first | omega | (simp; done) | (simp; omega)); have hs1 := hE.sizes (w.heap.size + 0) (by first | omega | (simp; done) | (simp; omega)); have hg1 := hE.rules.1; have hh1 := hE.rules.2; skip)
  refine Mix.wp_region_mixX (w.heap.size + 0) (.c 0 (.c 1 (.c 2 (.c 3 (.c 4 (.c 5 (.c 6 (.c 7 (.c 8 (.c 9 (.c 10 (.c 11 .done)))))))))))) (by kernel_rfl) (by kernel_rfl) (by first | omega | (simp; done) | (simp; omega)) (fun hap hapf => ?_)
  repeat (refine Mix.mix_q rfl rfl rfl (fun K hK => ?_); (conv => arg 2; whnf); (first | (go_big_quiet_op; refine hK _ ?_) | (go_simp; refine hK _ ?_)); clear hK K)
  (refine Mix.mix_nil (fun w2 hE2 => ?_); clear hap hapf; have hc2 := hE2.cells (w.heap.size + 0) (by first | omega | (simp; done) | (simp; omega)); have hf2 := hE2.marks (w.heap.size + 0) (by first | omega | (simp; done) | (simp; omega)); have hs2 := hE2.sizes (w.heap.size + 0) (by first | omega | (simp; done) | (simp; omega)); have hg2 := hE2.rules.1; have hh2 := hE2.rules.2; skip; dsimp only [Exit.then])
  go_wp2
  go_ret2
  exact ⟨rfl, by (repeat' (first | exact Ext.refl _ | assumption | refine Ext.alloc' ?_ _ | (refine Ext.set' ?_ (by first | omega | (simp; done) | (simp; omega)) _) | refine Ext.drew' ?_ | refine Ext.drewN' ?_ _ | refine Ext.trans ?_ (by assumption)))⟩
theorem RSide2 (w : World) : Calls Try.prog 178 #[.int .i64 2] w (TwoInts w (sideX 2) (sideY 2)) := by
  go_enter Try.func178, Try.ntmps178
  go_wp2_with (go_at_call 153; refine (RSides2 _).mono ?_; rintro e w1 ⟨b, rfl, hb, hE⟩; have hcb := blk_cell hb; have hbl := blk_lt hb; have hc1 := hE.cells (w.heap.size + 0) (by first | omega | (simp; done) | (simp; omega)); have hf1 := hE.marks (w.heap.size + 0) (by first | omega | (simp; done) | (simp; omega)); have hs1 := hE.sizes (w.heap.size + 0) (by first | omega | (simp; done) | (simp; omega)); have hg1 := hE.rules.1; have hh1 := hE.rules.2; skip)
  refine Mix.wp_region_mixX (w.heap.size + 0) (.c 0 (.c 1 (.c 2 (.c 3 (.c 4 (.c 5 (.c 6 (.c 7 (.c 8 (.c 9 (.c 10 (.c 11 .done)))))))))))) (by kernel_rfl) (by kernel_rfl) (by first | omega | (simp; done) | (simp; omega)) (fun hap hapf => ?_)
  repeat (refine Mix.mix_q rfl rfl rfl (fun K hK => ?_); (conv => arg 2; whnf); (first | (go_big_quiet_op; refine hK _ ?_) | (go_simp; refine hK _ ?_)); clear hK K)
  (refine Mix.mix_nil (fun w2 hE2 => ?_); clear hap hapf; have hc2 := hE2.cells (w.heap.size + 0) (by first | omega | (simp; done) | (simp; omega)); have hf2 := hE2.marks (w.heap.size + 0) (by first | omega | (simp; done) | (simp; omega)); have hs2 := hE2.sizes (w.heap.size + 0) (by first | omega | (simp; done) | (simp; omega)); have hg2 := hE2.rules.1; have hh2 := hE2.rules.2; skip; dsimp only [Exit.then])
  go_wp2
  go_ret2
  exact ⟨rfl, by (repeat' (first | exact Ext.refl _ | assumption | refine Ext.alloc' ?_ _ | (refine Ext.set' ?_ (by first | omega | (simp; done) | (simp; omega)) _) | refine Ext.drew' ?_ | refine Ext.drewN' ?_ _ | refine Ext.trans ?_ (by assumption)))⟩
theorem RSide3 (w : World) : Calls Try.prog 178 #[.int .i64 3] w (TwoInts w (sideX 3) (sideY 3)) := by
  go_enter Try.func178, Try.ntmps178
  go_wp2_with (go_at_call 153; refine (RSides3 _).mono ?_; rintro e w1 ⟨b, rfl, hb, hE⟩; have hcb := blk_cell hb; have hbl := blk_lt hb; have hc1 := hE.cells (w.heap.size + 0) (by first | omega | (simp; done) | (simp; omega)); have hf1 := hE.marks (w.heap.size + 0) (by first | omega | (simp; done) | (simp; omega)); have hs1 := hE.sizes (w.heap.size + 0) (by first | omega | (simp; done) | (simp; omega)); have hg1 := hE.rules.1; have hh1 := hE.rules.2; skip)
  refine Mix.wp_region_mixX (w.heap.size + 0) (.c 0 (.c 1 (.c 2 (.c 3 (.c 4 (.c 5 (.c 6 (.c 7 (.c 8 (.c 9 (.c 10 (.c 11 .done)))))))))))) (by kernel_rfl) (by kernel_rfl) (by first | omega | (simp; done) | (simp; omega)) (fun hap hapf => ?_)
  repeat (refine Mix.mix_q rfl rfl rfl (fun K hK => ?_); (conv => arg 2; whnf); (first | (go_big_quiet_op; refine hK _ ?_) | (go_simp; refine hK _ ?_)); clear hK K)
  (refine Mix.mix_nil (fun w2 hE2 => ?_); clear hap hapf; have hc2 := hE2.cells (w.heap.size + 0) (by first | omega | (simp; done) | (simp; omega)); have hf2 := hE2.marks (w.heap.size + 0) (by first | omega | (simp; done) | (simp; omega)); have hs2 := hE2.sizes (w.heap.size + 0) (by first | omega | (simp; done) | (simp; omega)); have hg2 := hE2.rules.1; have hh2 := hE2.rules.2; skip; dsimp only [Exit.then])
  go_wp2
  go_ret2
  exact ⟨rfl, by (repeat' (first | exact Ext.refl _ | assumption | refine Ext.alloc' ?_ _ | (refine Ext.set' ?_ (by first | omega | (simp; done) | (simp; omega)) _) | refine Ext.drew' ?_ | refine Ext.drewN' ?_ _ | refine Ext.trans ?_ (by assumption)))⟩
theorem RSide4 (w : World) : Calls Try.prog 178 #[.int .i64 4] w (TwoInts w (sideX 4) (sideY 4)) := by
  go_enter Try.func178, Try.ntmps178
  go_wp2_with (go_at_call 153; refine (RSides4 _).mono ?_; rintro e w1 ⟨b, rfl, hb, hE⟩; have hcb := blk_cell hb; have hbl := blk_lt hb; have hc1 := hE.cells (w.heap.size + 0) (by first | omega | (simp; done) | (simp; omega)); have hf1 := hE.marks (w.heap.size + 0) (by first | omega | (simp; done) | (simp; omega)); have hs1 := hE.sizes (w.heap.size + 0) (by first | omega | (simp; done) | (simp; omega)); have hg1 := hE.rules.1; have hh1 := hE.rules.2; skip)
  refine Mix.wp_region_mixX (w.heap.size + 0) (.c 0 (.c 1 (.c 2 (.c 3 (.c 4 (.c 5 (.c 6 (.c 7 (.c 8 (.c 9 (.c 10 (.c 11 .done)))))))))))) (by kernel_rfl) (by kernel_rfl) (by first | omega | (simp; done) | (simp; omega)) (fun hap hapf => ?_)
  repeat (refine Mix.mix_q rfl rfl rfl (fun K hK => ?_); (conv => arg 2; whnf); (first | (go_big_quiet_op; refine hK _ ?_) | (go_simp; refine hK _ ?_)); clear hK K)
  (refine Mix.mix_nil (fun w2 hE2 => ?_); clear hap hapf; have hc2 := hE2.cells (w.heap.size + 0) (by first | omega | (simp; done) | (simp; omega)); have hf2 := hE2.marks (w.heap.size + 0) (by first | omega | (simp; done) | (simp; omega)); have hs2 := hE2.sizes (w.heap.size + 0) (by first | omega | (simp; done) | (simp; omega)); have hg2 := hE2.rules.1; have hh2 := hE2.rules.2; skip; dsimp only [Exit.then])
  go_wp2
  go_ret2
  exact ⟨rfl, by (repeat' (first | exact Ext.refl _ | assumption | refine Ext.alloc' ?_ _ | (refine Ext.set' ?_ (by first | omega | (simp; done) | (simp; omega)) _) | refine Ext.drew' ?_ | refine Ext.drewN' ?_ _ | refine Ext.trans ?_ (by assumption)))⟩
theorem RSide0 (m : Int) (h1 : (m == 1) = false) (h2 : (m == 2) = false) (h3 : (m == 3) = false) (h4 : (m == 4) = false) (w : World) :
    Calls Try.prog 178 #[.int .i64 m] w (TwoInts w 0 0) := by
  go_enter Try.func178, Try.ntmps178
  go_wp2_with (go_at_call 153; refine (RSides0 m h1 h2 h3 h4 _).mono ?_; rintro e w1 ⟨rfl, hE⟩)
  go_ret2
  exact ⟨rfl, by (repeat' (first | exact Ext.refl _ | assumption | refine Ext.alloc' ?_ _ | (refine Ext.set' ?_ (by first | omega | (simp; done) | (simp; omega)) _) | refine Ext.drew' ?_ | refine Ext.drewN' ?_ _ | refine Ext.trans ?_ (by assumption)))⟩
theorem RSide_any (m : Int) (w : World) : Calls Try.prog 178 #[.int .i64 m] w (TwoInts w (sideX m) (sideY m)) := by
  by_cases h1 : m = 1
  · subst h1; exact RSide1 w
  by_cases h2 : m = 2
  · subst h2; exact RSide2 w
  by_cases h3 : m = 3
  · subst h3; exact RSide3 w
  by_cases h4 : m = 4
  · subst h4; exact RSide4 w
  have e1 : sideX m = 0 := by simp [sideX, h1, h2, h3, h4]
  have e2 : sideY m = 0 := by simp [sideY, h1, h2, h3, h4]
  rw [e1, e2]
  exact RSide0 m (by simpa using h1) (by simpa using h2) (by simpa using h3) (by simpa using h4) w
theorem okS_f {n : Int} (h : n < 1 ∨ 65535 < n) : okS n = false := by
  cases hh : okS n with
  | false => rfl
  | true => simp [okS] at hh; omega
theorem RGrid_any (W H M Qu I C : Int) (w : World) : Calls Try.prog 143 #[.agg #[.int .i64 W, .int .i64 H, .int .i64 M, .int .i64 Qu, .int .i64 I, .int .i64 C]] w (TwoInts w (gridX W H M) (gridY W H M)) := by
  by_cases h1 : sideX M = 0
  · have e1 : gridX W H M = 0 := by unfold gridX; rw [if_pos (.inl h1)]
    have e2 : gridY W H M = 0 := by unfold gridY; rw [if_pos (.inl h1)]
    have h1' : (sideX M == 0) = true := by simpa using h1
    clear h1
    rw [e1, e2]
    clear e1 e2
    go_enter Try.func143, Try.ntmps143
    go_wp2_with (go_at_call 178; refine (RSide_any _ _).mono ?_; intro e w1 h; have he := h.1; have hE := h.2; clear h; subst he; have hc1 := hE.cells (w.heap.size + 1) (by first | omega | (simp; done) | (simp; omega)); have hf1 := hE.marks (w.heap.size + 1) (by first | omega | (simp; done) | (simp; omega)); have hs1 := hE.sizes (w.heap.size + 1) (by first | omega | (simp; done) | (simp; omega)); have hg1 := hE.rules.1; have hh1 := hE.rules.2; have hl1_0 : w.heap.size < w1.heap.size := (by omega))
    go_ret2
    exact ⟨rfl, by (repeat' (first | exact Ext.refl _ | assumption | refine Ext.alloc' ?_ _ | (refine Ext.set' ?_ (by first | omega | (simp; done) | (simp; omega)) _) | refine Ext.drew' ?_ | refine Ext.drewN' ?_ _ | refine Ext.trans ?_ (by assumption)))⟩
  have h1' : (sideX M == 0) = false := by simpa using h1
  by_cases h2 : W < 1
  · have e1 : gridX W H M = 0 := by unfold gridX; rw [if_pos (.inr (.inl (okS_f (.inl h2))))]
    have e2 : gridY W H M = 0 := by unfold gridY; rw [if_pos (.inr (.inl (okS_f (.inl h2))))]
    have h2' : decide (W < 1) = true := by simpa using h2
    clear h1 h2
    rw [e1, e2]
    clear e1 e2
    go_enter Try.func143, Try.ntmps143
    go_wp2_with (go_at_call 178; refine (RSide_any _ _).mono ?_; intro e w1 h; have he := h.1; have hE := h.2; clear h; subst he; have hc1 := hE.cells (w.heap.size + 1) (by first | omega | (simp; done) | (simp; omega)); have hf1 := hE.marks (w.heap.size + 1) (by first | omega | (simp; done) | (simp; omega)); have hs1 := hE.sizes (w.heap.size + 1) (by first | omega | (simp; done) | (simp; omega)); have hg1 := hE.rules.1; have hh1 := hE.rules.2; have hl1_0 : w.heap.size < w1.heap.size := (by omega))
    go_ret2
    exact ⟨rfl, by (repeat' (first | exact Ext.refl _ | assumption | refine Ext.alloc' ?_ _ | (refine Ext.set' ?_ (by first | omega | (simp; done) | (simp; omega)) _) | refine Ext.drew' ?_ | refine Ext.drewN' ?_ _ | refine Ext.trans ?_ (by assumption)))⟩
  have h2' : decide (W < 1) = false := by simpa using h2
  by_cases h3 : 65535 < W
  · have e1 : gridX W H M = 0 := by unfold gridX; rw [if_pos (.inr (.inl (okS_f (.inr h3))))]
    have e2 : gridY W H M = 0 := by unfold gridY; rw [if_pos (.inr (.inl (okS_f (.inr h3))))]
    have h3' : decide (65535 < W) = true := by simpa using h3
    clear h1 h2 h3
    rw [e1, e2]
    clear e1 e2
    go_enter Try.func143, Try.ntmps143
    go_wp2_with (go_at_call 178; refine (RSide_any _ _).mono ?_; intro e w1 h; have he := h.1; have hE := h.2; clear h; subst he; have hc1 := hE.cells (w.heap.size + 1) (by first | omega | (simp; done) | (simp; omega)); have hf1 := hE.marks (w.heap.size + 1) (by first | omega | (simp; done) | (simp; omega)); have hs1 := hE.sizes (w.heap.size + 1) (by first | omega | (simp; done) | (simp; omega)); have hg1 := hE.rules.1; have hh1 := hE.rules.2; have hl1_0 : w.heap.size < w1.heap.size := (by omega))
    go_ret2
    exact ⟨rfl, by (repeat' (first | exact Ext.refl _ | assumption | refine Ext.alloc' ?_ _ | (refine Ext.set' ?_ (by first | omega | (simp; done) | (simp; omega)) _) | refine Ext.drew' ?_ | refine Ext.drewN' ?_ _ | refine Ext.trans ?_ (by assumption)))⟩
  have h3' : decide (65535 < W) = false := by simpa using h3
  by_cases h4 : H < 1
  · have e1 : gridX W H M = 0 := by unfold gridX; rw [if_pos (.inr (.inr (okS_f (.inl h4))))]
    have e2 : gridY W H M = 0 := by unfold gridY; rw [if_pos (.inr (.inr (okS_f (.inl h4))))]
    have h4' : decide (H < 1) = true := by simpa using h4
    clear h1 h2 h3 h4
    rw [e1, e2]
    clear e1 e2
    go_enter Try.func143, Try.ntmps143
    go_wp2_with (go_at_call 178; refine (RSide_any _ _).mono ?_; intro e w1 h; have he := h.1; have hE := h.2; clear h; subst he; have hc1 := hE.cells (w.heap.size + 1) (by first | omega | (simp; done) | (simp; omega)); have hf1 := hE.marks (w.heap.size + 1) (by first | omega | (simp; done) | (simp; omega)); have hs1 := hE.sizes (w.heap.size + 1) (by first | omega | (simp; done) | (simp; omega)); have hg1 := hE.rules.1; have hh1 := hE.rules.2; have hl1_0 : w.heap.size < w1.heap.size := (by omega))
    go_ret2
    exact ⟨rfl, by (repeat' (first | exact Ext.refl _ | assumption | refine Ext.alloc' ?_ _ | (refine Ext.set' ?_ (by first | omega | (simp; done) | (simp; omega)) _) | refine Ext.drew' ?_ | refine Ext.drewN' ?_ _ | refine Ext.trans ?_ (by assumption)))⟩
  have h4' : decide (H < 1) = false := by simpa using h4
  by_cases h5 : 65535 < H
  · have e1 : gridX W H M = 0 := by unfold gridX; rw [if_pos (.inr (.inr (okS_f (.inr h5))))]
    have e2 : gridY W H M = 0 := by unfold gridY; rw [if_pos (.inr (.inr (okS_f (.inr h5))))]
    have h5' : decide (65535 < H) = true := by simpa using h5
    clear h1 h2 h3 h4 h5
    rw [e1, e2]
    clear e1 e2
    go_enter Try.func143, Try.ntmps143
    go_wp2_with (go_at_call 178; refine (RSide_any _ _).mono ?_; intro e w1 h; have he := h.1; have hE := h.2; clear h; subst he; have hc1 := hE.cells (w.heap.size + 1) (by first | omega | (simp; done) | (simp; omega)); have hf1 := hE.marks (w.heap.size + 1) (by first | omega | (simp; done) | (simp; omega)); have hs1 := hE.sizes (w.heap.size + 1) (by first | omega | (simp; done) | (simp; omega)); have hg1 := hE.rules.1; have hh1 := hE.rules.2; have hl1_0 : w.heap.size < w1.heap.size := (by omega))
    go_ret2
    exact ⟨rfl, by (repeat' (first | exact Ext.refl _ | assumption | refine Ext.alloc' ?_ _ | (refine Ext.set' ?_ (by first | omega | (simp; done) | (simp; omega)) _) | refine Ext.drew' ?_ | refine Ext.drewN' ?_ _ | refine Ext.trans ?_ (by assumption)))⟩
  have h5' : decide (65535 < H) = false := by simpa using h5
  have q1 : okS W = true := by simp [okS]; omega
  have q2 : okS H = true := by simp [okS]; omega
  have e1 : gridX W H M = ceilV W (sideX M) := by unfold gridX; rw [if_neg (by simp [h1, q1, q2])]
  have e2 : gridY W H M = ceilV H (sideY M) := by unfold gridY; rw [if_neg (by simp [h1, q1, q2])]
  rw [e1, e2]
  clear h1 e1 e2 q1 q2
  go_enter Try.func143, Try.ntmps143
  go_wp2_with (go_at_call 178; refine (RSide_any _ _).mono ?_; intro e w1 h; have he := h.1; have hE := h.2; clear h; subst he; have hc1 := hE.cells (w.heap.size + 1) (by first | omega | (simp; done) | (simp; omega)); have hf1 := hE.marks (w.heap.size + 1) (by first | omega | (simp; done) | (simp; omega)); have hs1 := hE.sizes (w.heap.size + 1) (by first | omega | (simp; done) | (simp; omega)); have hg1 := hE.rules.1; have hh1 := hE.rules.2; have hl1_0 : w.heap.size < w1.heap.size := (by omega))
  refine Mix.wp_region_mixX (w.heap.size + 1) (.c 0 (.c 1 (.c 2 (.c 3 (.c 4 (.c 5 (.c 6 (.c 7 (.c 8 (.c 9 .done)))))))))) (by kernel_rfl) (by kernel_rfl) (by first | omega | (simp; done) | (simp; omega)) (fun hap hapf => ?_)
  repeat (refine Mix.mix_q rfl rfl rfl (fun K hK => ?_); (conv => arg 2; whnf); (first | (go_big_quiet_op; refine hK _ ?_) | (go_simp; refine hK _ ?_)); clear hK K)
  (refine Mix.mix_c rfl rfl (fun K hK => ?_); (conv => arg 2; whnf); go_simp; apply Exists.intro; refine ⟨fun _ => ?_, hK _ ?_⟩; exact Mix.se (RCeil_any _ _ _); clear hK K)
  repeat (refine Mix.mix_q rfl rfl rfl (fun K hK => ?_); (conv => arg 2; whnf); (first | (go_big_quiet_op; refine hK _ ?_) | (go_simp; refine hK _ ?_)); clear hK K)
  (refine Mix.mix_c rfl rfl (fun K hK => ?_); (conv => arg 2; whnf); go_simp; apply Exists.intro; refine ⟨fun _ => ?_, hK _ ?_⟩; exact Mix.se (RCeil_any _ _ _); clear hK K)
  repeat (refine Mix.mix_q rfl rfl rfl (fun K hK => ?_); (conv => arg 2; whnf); (first | (go_big_quiet_op; refine hK _ ?_) | (go_simp; refine hK _ ?_)); clear hK K)
  (refine Mix.mix_nil (fun w2 hE2 => ?_); clear hap hapf; have hc2 := hE2.cells (w.heap.size + 1) (by first | omega | (simp; done) | (simp; omega)); have hf2 := hE2.marks (w.heap.size + 1) (by first | omega | (simp; done) | (simp; omega)); have hs2 := hE2.sizes (w.heap.size + 1) (by first | omega | (simp; done) | (simp; omega)); have hg2 := hE2.rules.1; have hh2 := hE2.rules.2; have hl2_0 : w.heap.size < w2.heap.size := (by omega); dsimp only [Exit.then])
  go_wp2
  go_ret2
  exact ⟨rfl, by (repeat' (first | exact Ext.refl _ | assumption | refine Ext.alloc' ?_ _ | (refine Ext.set' ?_ (by first | omega | (simp; done) | (simp; omega)) _) | refine Ext.drew' ?_ | refine Ext.drewN' ?_ _ | refine Ext.trans ?_ (by assumption)))⟩
end Go.Proofs.Ytoipadeeochbnaa
