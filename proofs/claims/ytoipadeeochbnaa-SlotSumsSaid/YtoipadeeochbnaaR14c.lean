import Derived.Test.YtoipadeeochbnaaR14b
namespace Go.Proofs.Ytoipadeeochbnaa
open Go.RowKit Mix
set_option linter.unusedVariables false
attribute [local go_sem] Mix.calm Oper.quietUpon
theorem RSlot_any (W H M Qu I C : Int) (w : World) : Calls Try.prog 111 #[.agg #[.int .i64 W, .int .i64 H, .int .i64 M, .int .i64 Qu, .int .i64 I, .int .i64 C]] w fun e w' => e = .returned (.int .i64 (slotV W H M I C)) ∧ Ext w w' := by
  have hb := roomV_bd W H M I C
  by_cases h : 0 < roomV W H M I C
  · have e : slotV W H M I C = roomV W H M I C + 2 := by unfold slotV; rw [if_pos h]
    have h' : (roomV W H M I C == 0) = false := by simp; omega
    rw [e]
    clear e
    go_enter Try.func111, Try.ntmps111
    go_wp2_with (go_at_call 112; refine (RRoom_any W H M Qu I C _).mono ?_; intro e w1 h; have he := h.1; have hE := h.2; clear h; subst he; have hc1 := hE.cells (w.heap.size + 1) (by first | omega | (simp; done) | (simp; omega)); have hf1 := hE.marks (w.heap.size + 1) (by first | omega | (simp; done) | (simp; omega)); have hs1 := hE.sizes (w.heap.size + 1) (by first | omega | (simp; done) | (simp; omega)); have hg1 := hE.rules.1; have hh1 := hE.rules.2; have hl1_0 : w.heap.size < w1.heap.size := (by omega))
    go_ret
    exact ⟨rfl, by (repeat' (first | exact Ext.refl _ | assumption | refine Ext.alloc' ?_ _ | (refine Ext.set' ?_ (by first | omega | (simp; done) | (simp; omega)) _) | refine Ext.drew' ?_ | refine Ext.drewN' ?_ _ | refine Ext.trans ?_ (by assumption)))⟩
  · have e : slotV W H M I C = 0 := by unfold slotV; rw [if_neg h]
    have h' : (roomV W H M I C == 0) = true := by simp; omega
    rw [e]
    clear e
    go_enter Try.func111, Try.ntmps111
    go_wp2_with (go_at_call 112; refine (RRoom_any W H M Qu I C _).mono ?_; intro e w1 h; have he := h.1; have hE := h.2; clear h; subst he; have hc1 := hE.cells (w.heap.size + 1) (by first | omega | (simp; done) | (simp; omega)); have hf1 := hE.marks (w.heap.size + 1) (by first | omega | (simp; done) | (simp; omega)); have hs1 := hE.sizes (w.heap.size + 1) (by first | omega | (simp; done) | (simp; omega)); have hg1 := hE.rules.1; have hh1 := hE.rules.2; have hl1_0 : w.heap.size < w1.heap.size := (by omega))
    go_ret
    exact ⟨rfl, by (repeat' (first | exact Ext.refl _ | assumption | refine Ext.alloc' ?_ _ | (refine Ext.set' ?_ (by first | omega | (simp; done) | (simp; omega)) _) | refine Ext.drew' ?_ | refine Ext.drewN' ?_ _ | refine Ext.trans ?_ (by assumption)))⟩
theorem RReserve_any (W H M Qu I C : Int) (k f : Int) (w : World) : Calls Try.prog 117 #[.agg #[.int .i64 W, .int .i64 H, .int .i64 M, .int .i64 Qu, .int .i64 I, .int .i64 C], .int .i64 k, .int .i64 f] w fun e w' => e = .returned (.int .i64 (reserveV M k f)) ∧ Ext w w' := by
  by_cases h1 : k < 0
  · have e : reserveV M k f = 0 := by unfold reserveV; rw [if_pos (.inl h1)]
    rw [e]
    have h1' : decide (k < 0) = true := by simpa using h1
    clear e
    go_enter Try.func117, Try.ntmps117
    go_wp2_with (go_at_call 116; refine (RParts_any M _).mono ?_; rintro e w1 ⟨a, cap, rfl, hc, hE⟩; have hc1 := hE.cells (w.heap.size + 1) (by first | omega | (simp; done) | (simp; omega)); have hf1 := hE.marks (w.heap.size + 1) (by first | omega | (simp; done) | (simp; omega)); have hs1 := hE.sizes (w.heap.size + 1) (by first | omega | (simp; done) | (simp; omega)); have hg1 := hE.rules.1; have hh1 := hE.rules.2; have hl1_0 : w.heap.size < w1.heap.size := (by omega))
    go_ret
    exact ⟨rfl, by (repeat' (first | exact Ext.refl _ | assumption | refine Ext.alloc' ?_ _ | (refine Ext.set' ?_ (by first | omega | (simp; done) | (simp; omega)) _) | refine Ext.drew' ?_ | refine Ext.drewN' ?_ _ | refine Ext.trans ?_ (by assumption)))⟩
  have h1' : decide (k < 0) = false := by simpa using h1
  by_cases h3 : 8388608 < f
  · have e : reserveV M k f = 0 := by unfold reserveV; rw [if_pos (.inr (.inr (.inl h3)))]
    rw [e]
    have h3' : decide (8388608 < f) = true := by simpa using h3
    clear e
    go_enter Try.func117, Try.ntmps117
    go_wp2_with (go_at_call 116; refine (RParts_any M _).mono ?_; rintro e w1 ⟨a, cap, rfl, hc, hE⟩; have hc1 := hE.cells (w.heap.size + 1) (by first | omega | (simp; done) | (simp; omega)); have hf1 := hE.marks (w.heap.size + 1) (by first | omega | (simp; done) | (simp; omega)); have hs1 := hE.sizes (w.heap.size + 1) (by first | omega | (simp; done) | (simp; omega)); have hg1 := hE.rules.1; have hh1 := hE.rules.2; have hl1_0 : w.heap.size < w1.heap.size := (by omega))
    go_ret
    exact ⟨rfl, by (repeat' (first | exact Ext.refl _ | assumption | refine Ext.alloc' ?_ _ | (refine Ext.set' ?_ (by first | omega | (simp; done) | (simp; omega)) _) | refine Ext.drew' ?_ | refine Ext.drewN' ?_ _ | refine Ext.trans ?_ (by assumption)))⟩
  have h3' : decide (8388608 < f) = false := by simpa using h3
  by_cases h4 : nP M = 0
  · have e : reserveV M k f = 0 := by unfold reserveV; rw [if_pos (.inr (.inr (.inr h4)))]
    rw [e]
    have h4' : ((nP M : Int) == 0) = true := by simp [h4]
    clear h4 e
    go_enter Try.func117, Try.ntmps117
    go_wp2_with (go_at_call 116; refine (RParts_any M _).mono ?_; rintro e w1 ⟨a, cap, rfl, hc, hE⟩; have hc1 := hE.cells (w.heap.size + 1) (by first | omega | (simp; done) | (simp; omega)); have hf1 := hE.marks (w.heap.size + 1) (by first | omega | (simp; done) | (simp; omega)); have hs1 := hE.sizes (w.heap.size + 1) (by first | omega | (simp; done) | (simp; omega)); have hg1 := hE.rules.1; have hh1 := hE.rules.2; have hl1_0 : w.heap.size < w1.heap.size := (by omega))
    go_ret
    exact ⟨rfl, by (repeat' (first | exact Ext.refl _ | assumption | refine Ext.alloc' ?_ _ | (refine Ext.set' ?_ (by first | omega | (simp; done) | (simp; omega)) _) | refine Ext.drew' ?_ | refine Ext.drewN' ?_ _ | refine Ext.trans ?_ (by assumption)))⟩
  have h4' : ((nP M : Int) == 0) = false := by simp [h4]
  by_cases h2 : f ≤ k
  · have e : reserveV M k f = 0 := by unfold reserveV; rw [if_pos (.inr (.inl h2))]
    rw [e]
    have h2' : decide (f ≤ k) = true := by simpa using h2
    clear h4 e
    go_enter Try.func117, Try.ntmps117
    go_wp2_with (go_at_call 116; refine (RParts_any M _).mono ?_; rintro e w1 ⟨a, cap, rfl, hc, hE⟩; have hc1 := hE.cells (w.heap.size + 1) (by first | omega | (simp; done) | (simp; omega)); have hf1 := hE.marks (w.heap.size + 1) (by first | omega | (simp; done) | (simp; omega)); have hs1 := hE.sizes (w.heap.size + 1) (by first | omega | (simp; done) | (simp; omega)); have hg1 := hE.rules.1; have hh1 := hE.rules.2; have hl1_0 : w.heap.size < w1.heap.size := (by omega))
    go_ret
    exact ⟨rfl, by (repeat' (first | exact Ext.refl _ | assumption | refine Ext.alloc' ?_ _ | (refine Ext.set' ?_ (by first | omega | (simp; done) | (simp; omega)) _) | refine Ext.drew' ?_ | refine Ext.drewN' ?_ _ | refine Ext.trans ?_ (by assumption)))⟩
  have h2' : decide (f ≤ k) = false := by simpa using h2
  have e : reserveV M k f = 24 * (f - k) := by unfold reserveV; rw [if_neg (by simp [h1, h2, h3, h4])]
  rw [e]
  clear h4 e
  go_enter Try.func117, Try.ntmps117
  go_wp2_with (go_at_call 116; refine (RParts_any M _).mono ?_; rintro e w1 ⟨a, cap, rfl, hc, hE⟩; have hc1 := hE.cells (w.heap.size + 1) (by first | omega | (simp; done) | (simp; omega)); have hf1 := hE.marks (w.heap.size + 1) (by first | omega | (simp; done) | (simp; omega)); have hs1 := hE.sizes (w.heap.size + 1) (by first | omega | (simp; done) | (simp; omega)); have hg1 := hE.rules.1; have hh1 := hE.rules.2; have hl1_0 : w.heap.size < w1.heap.size := (by omega))
  go_ret
  exact ⟨rfl, by (repeat' (first | exact Ext.refl _ | assumption | refine Ext.alloc' ?_ _ | (refine Ext.set' ?_ (by first | omega | (simp; done) | (simp; omega)) _) | refine Ext.drew' ?_ | refine Ext.drewN' ?_ _ | refine Ext.trans ?_ (by assumption)))⟩
theorem btw_l {n lo hi : Int} (h : n < lo) : btw n lo hi = false := by simp only [btw, Bool.and_eq_false_iff, decide_eq_false_iff_not]; omega
theorem btw_h {n lo hi : Int} (h : hi < n) : btw n lo hi = false := by simp only [btw, Bool.and_eq_false_iff, decide_eq_false_iff_not]; omega
theorem btw_o {n lo hi : Int} (h : ¬ n < lo) (k : ¬ hi < n) : btw n lo hi = true := by simp [btw]; omega
set_option maxHeartbeats 2000000 in
theorem RCheck_any (W H M Qu I C : Int) (w : World) : Calls Try.prog 110 #[.agg #[.int .i64 W, .int .i64 H, .int .i64 M, .int .i64 Qu, .int .i64 I, .int .i64 C]] w fun e w' => e = .returned (.int .i64 (checkV W H M Qu I C)) ∧ Ext w w' := by
  have hsb := slotV_bd W H M I C
  by_cases a1 : W < 1
  · have e : checkV W H M Qu I C = 10 := (by unfold checkV; rw [if_pos (.inl (btw_l a1))])
    rw [e]
    have ta1 : decide (W < 1) = true := by simpa using a1
    clear e
    go_enter Try.func110, Try.ntmps110
    go_wp2_with (go_at_call 111; refine (RSlot_any W H M Qu I C _).mono ?_; intro e w1 h; have he := h.1; have hE := h.2; clear h; subst he; have hc1 := hE.cells (w.heap.size + 1) (by first | omega | (simp; done) | (simp; omega)); have hf1 := hE.marks (w.heap.size + 1) (by first | omega | (simp; done) | (simp; omega)); have hs1 := hE.sizes (w.heap.size + 1) (by first | omega | (simp; done) | (simp; omega)); have hg1 := hE.rules.1; have hh1 := hE.rules.2; have hl1_0 : w.heap.size < w1.heap.size := (by omega))
    go_ret
    exact ⟨rfl, by (repeat' (first | exact Ext.refl _ | assumption | refine Ext.alloc' ?_ _ | (refine Ext.set' ?_ (by first | omega | (simp; done) | (simp; omega)) _) | refine Ext.drew' ?_ | refine Ext.drewN' ?_ _ | refine Ext.trans ?_ (by assumption)))⟩
  have ta1 : decide (W < 1) = false := by simpa using a1
  by_cases a2 : 65535 < W
  · have e : checkV W H M Qu I C = 10 := (by unfold checkV; rw [if_pos (.inl (btw_h a2))])
    rw [e]
    have ta2 : decide (65535 < W) = true := by simpa using a2
    clear e
    go_enter Try.func110, Try.ntmps110
    go_wp2_with (go_at_call 111; refine (RSlot_any W H M Qu I C _).mono ?_; intro e w1 h; have he := h.1; have hE := h.2; clear h; subst he; have hc1 := hE.cells (w.heap.size + 1) (by first | omega | (simp; done) | (simp; omega)); have hf1 := hE.marks (w.heap.size + 1) (by first | omega | (simp; done) | (simp; omega)); have hs1 := hE.sizes (w.heap.size + 1) (by first | omega | (simp; done) | (simp; omega)); have hg1 := hE.rules.1; have hh1 := hE.rules.2; have hl1_0 : w.heap.size < w1.heap.size := (by omega))
    go_ret
    exact ⟨rfl, by (repeat' (first | exact Ext.refl _ | assumption | refine Ext.alloc' ?_ _ | (refine Ext.set' ?_ (by first | omega | (simp; done) | (simp; omega)) _) | refine Ext.drew' ?_ | refine Ext.drewN' ?_ _ | refine Ext.trans ?_ (by assumption)))⟩
  have ta2 : decide (65535 < W) = false := by simpa using a2
  by_cases a3 : H < 1
  · have e : checkV W H M Qu I C = 10 := (by unfold checkV; rw [if_pos (.inr (btw_l a3))])
    rw [e]
    have ta3 : decide (H < 1) = true := by simpa using a3
    clear e
    go_enter Try.func110, Try.ntmps110
    go_wp2_with (go_at_call 111; refine (RSlot_any W H M Qu I C _).mono ?_; intro e w1 h; have he := h.1; have hE := h.2; clear h; subst he; have hc1 := hE.cells (w.heap.size + 1) (by first | omega | (simp; done) | (simp; omega)); have hf1 := hE.marks (w.heap.size + 1) (by first | omega | (simp; done) | (simp; omega)); have hs1 := hE.sizes (w.heap.size + 1) (by first | omega | (simp; done) | (simp; omega)); have hg1 := hE.rules.1; have hh1 := hE.rules.2; have hl1_0 : w.heap.size < w1.heap.size := (by omega))
    go_ret
    exact ⟨rfl, by (repeat' (first | exact Ext.refl _ | assumption | refine Ext.alloc' ?_ _ | (refine Ext.set' ?_ (by first | omega | (simp; done) | (simp; omega)) _) | refine Ext.drew' ?_ | refine Ext.drewN' ?_ _ | refine Ext.trans ?_ (by assumption)))⟩
  have ta3 : decide (H < 1) = false := by simpa using a3
  by_cases a4 : 65535 < H
  · have e : checkV W H M Qu I C = 10 := (by unfold checkV; rw [if_pos (.inr (btw_h a4))])
    rw [e]
    have ta4 : decide (65535 < H) = true := by simpa using a4
    clear e
    go_enter Try.func110, Try.ntmps110
    go_wp2_with (go_at_call 111; refine (RSlot_any W H M Qu I C _).mono ?_; intro e w1 h; have he := h.1; have hE := h.2; clear h; subst he; have hc1 := hE.cells (w.heap.size + 1) (by first | omega | (simp; done) | (simp; omega)); have hf1 := hE.marks (w.heap.size + 1) (by first | omega | (simp; done) | (simp; omega)); have hs1 := hE.sizes (w.heap.size + 1) (by first | omega | (simp; done) | (simp; omega)); have hg1 := hE.rules.1; have hh1 := hE.rules.2; have hl1_0 : w.heap.size < w1.heap.size := (by omega))
    go_ret
    exact ⟨rfl, by (repeat' (first | exact Ext.refl _ | assumption | refine Ext.alloc' ?_ _ | (refine Ext.set' ?_ (by first | omega | (simp; done) | (simp; omega)) _) | refine Ext.drew' ?_ | refine Ext.drewN' ?_ _ | refine Ext.trans ?_ (by assumption)))⟩
  have ta4 : decide (65535 < H) = false := by simpa using a4
  have oW : okS W = true := btw_o a1 a2
  have oH : okS H = true := btw_o a3 a4
  have hp0 : 0 ≤ W * H := Int.mul_nonneg (by omega) (by omega)
  have hp1 := Int.mul_le_mul (show W ≤ 65535 by omega) (show H ≤ 65535 by omega) (by omega) (by omega)
  have e0 : checkV W H M Qu I C = if 67108864 < W * H then 15 else if btw M 1 4 = false then 11 else if btw Qu 1 100 = false then 12
  else if btw I 1 65535 = false then 13 else if btw C 0 3 = false then 14 else if 1048576 < slotV W H M I C then 3 else 0 := by
    unfold checkV; rw [if_neg (by simp [oW, oH])]
  rw [e0]
  clear e0
  by_cases a5 : 67108864 < W * H
  · rw [if_pos a5]
    have ta5 : decide (67108864 < W * H) = true := by simpa using a5
    go_enter Try.func110, Try.ntmps110
    go_wp2_with (go_at_call 111; refine (RSlot_any W H M Qu I C _).mono ?_; intro e w1 h; have he := h.1; have hE := h.2; clear h; subst he; have hc1 := hE.cells (w.heap.size + 1) (by first | omega | (simp; done) | (simp; omega)); have hf1 := hE.marks (w.heap.size + 1) (by first | omega | (simp; done) | (simp; omega)); have hs1 := hE.sizes (w.heap.size + 1) (by first | omega | (simp; done) | (simp; omega)); have hg1 := hE.rules.1; have hh1 := hE.rules.2; have hl1_0 : w.heap.size < w1.heap.size := (by omega))
    go_ret
    exact ⟨rfl, by (repeat' (first | exact Ext.refl _ | assumption | refine Ext.alloc' ?_ _ | (refine Ext.set' ?_ (by first | omega | (simp; done) | (simp; omega)) _) | refine Ext.drew' ?_ | refine Ext.drewN' ?_ _ | refine Ext.trans ?_ (by assumption)))⟩
  rw [if_neg a5]
  have ta5 : decide (67108864 < W * H) = false := by simpa using a5
  by_cases b1 : M < 1
  · rw [if_pos (btw_l b1)]
    have tb1 : decide (M < 1) = true := by simpa using b1
    go_enter Try.func110, Try.ntmps110
    go_wp2_with (go_at_call 111; refine (RSlot_any W H M Qu I C _).mono ?_; intro e w1 h; have he := h.1; have hE := h.2; clear h; subst he; have hc1 := hE.cells (w.heap.size + 1) (by first | omega | (simp; done) | (simp; omega)); have hf1 := hE.marks (w.heap.size + 1) (by first | omega | (simp; done) | (simp; omega)); have hs1 := hE.sizes (w.heap.size + 1) (by first | omega | (simp; done) | (simp; omega)); have hg1 := hE.rules.1; have hh1 := hE.rules.2; have hl1_0 : w.heap.size < w1.heap.size := (by omega))
    go_ret
    exact ⟨rfl, by (repeat' (first | exact Ext.refl _ | assumption | refine Ext.alloc' ?_ _ | (refine Ext.set' ?_ (by first | omega | (simp; done) | (simp; omega)) _) | refine Ext.drew' ?_ | refine Ext.drewN' ?_ _ | refine Ext.trans ?_ (by assumption)))⟩
  have tb1 : decide (M < 1) = false := by simpa using b1
  by_cases b2 : 4 < M
  · rw [if_pos (btw_h b2)]
    have tb2 : decide (4 < M) = true := by simpa using b2
    go_enter Try.func110, Try.ntmps110
    go_wp2_with (go_at_call 111; refine (RSlot_any W H M Qu I C _).mono ?_; intro e w1 h; have he := h.1; have hE := h.2; clear h; subst he; have hc1 := hE.cells (w.heap.size + 1) (by first | omega | (simp; done) | (simp; omega)); have hf1 := hE.marks (w.heap.size + 1) (by first | omega | (simp; done) | (simp; omega)); have hs1 := hE.sizes (w.heap.size + 1) (by first | omega | (simp; done) | (simp; omega)); have hg1 := hE.rules.1; have hh1 := hE.rules.2; have hl1_0 : w.heap.size < w1.heap.size := (by omega))
    go_ret
    exact ⟨rfl, by (repeat' (first | exact Ext.refl _ | assumption | refine Ext.alloc' ?_ _ | (refine Ext.set' ?_ (by first | omega | (simp; done) | (simp; omega)) _) | refine Ext.drew' ?_ | refine Ext.drewN' ?_ _ | refine Ext.trans ?_ (by assumption)))⟩
  have tb2 : decide (4 < M) = false := by simpa using b2
  rw [if_neg (by simp [btw_o b1 b2])]
  by_cases c1 : Qu < 1
  · rw [if_pos (btw_l c1)]
    have tc1 : decide (Qu < 1) = true := by simpa using c1
    go_enter Try.func110, Try.ntmps110
    go_wp2_with (go_at_call 111; refine (RSlot_any W H M Qu I C _).mono ?_; intro e w1 h; have he := h.1; have hE := h.2; clear h; subst he; have hc1 := hE.cells (w.heap.size + 1) (by first | omega | (simp; done) | (simp; omega)); have hf1 := hE.marks (w.heap.size + 1) (by first | omega | (simp; done) | (simp; omega)); have hs1 := hE.sizes (w.heap.size + 1) (by first | omega | (simp; done) | (simp; omega)); have hg1 := hE.rules.1; have hh1 := hE.rules.2; have hl1_0 : w.heap.size < w1.heap.size := (by omega))
    go_ret
    exact ⟨rfl, by (repeat' (first | exact Ext.refl _ | assumption | refine Ext.alloc' ?_ _ | (refine Ext.set' ?_ (by first | omega | (simp; done) | (simp; omega)) _) | refine Ext.drew' ?_ | refine Ext.drewN' ?_ _ | refine Ext.trans ?_ (by assumption)))⟩
  have tc1 : decide (Qu < 1) = false := by simpa using c1
  by_cases c2 : 100 < Qu
  · rw [if_pos (btw_h c2)]
    have tc2 : decide (100 < Qu) = true := by simpa using c2
    go_enter Try.func110, Try.ntmps110
    go_wp2_with (go_at_call 111; refine (RSlot_any W H M Qu I C _).mono ?_; intro e w1 h; have he := h.1; have hE := h.2; clear h; subst he; have hc1 := hE.cells (w.heap.size + 1) (by first | omega | (simp; done) | (simp; omega)); have hf1 := hE.marks (w.heap.size + 1) (by first | omega | (simp; done) | (simp; omega)); have hs1 := hE.sizes (w.heap.size + 1) (by first | omega | (simp; done) | (simp; omega)); have hg1 := hE.rules.1; have hh1 := hE.rules.2; have hl1_0 : w.heap.size < w1.heap.size := (by omega))
    go_ret
    exact ⟨rfl, by (repeat' (first | exact Ext.refl _ | assumption | refine Ext.alloc' ?_ _ | (refine Ext.set' ?_ (by first | omega | (simp; done) | (simp; omega)) _) | refine Ext.drew' ?_ | refine Ext.drewN' ?_ _ | refine Ext.trans ?_ (by assumption)))⟩
  have tc2 : decide (100 < Qu) = false := by simpa using c2
  rw [if_neg (by simp [btw_o c1 c2])]
  by_cases d1 : I < 1
  · rw [if_pos (btw_l d1)]
    have td1 : decide (I < 1) = true := by simpa using d1
    go_enter Try.func110, Try.ntmps110
    go_wp2_with (go_at_call 111; refine (RSlot_any W H M Qu I C _).mono ?_; intro e w1 h; have he := h.1; have hE := h.2; clear h; subst he; have hc1 := hE.cells (w.heap.size + 1) (by first | omega | (simp; done) | (simp; omega)); have hf1 := hE.marks (w.heap.size + 1) (by first | omega | (simp; done) | (simp; omega)); have hs1 := hE.sizes (w.heap.size + 1) (by first | omega | (simp; done) | (simp; omega)); have hg1 := hE.rules.1; have hh1 := hE.rules.2; have hl1_0 : w.heap.size < w1.heap.size := (by omega))
    go_ret
    exact ⟨rfl, by (repeat' (first | exact Ext.refl _ | assumption | refine Ext.alloc' ?_ _ | (refine Ext.set' ?_ (by first | omega | (simp; done) | (simp; omega)) _) | refine Ext.drew' ?_ | refine Ext.drewN' ?_ _ | refine Ext.trans ?_ (by assumption)))⟩
  have td1 : decide (I < 1) = false := by simpa using d1
  by_cases d2 : 65535 < I
  · rw [if_pos (btw_h d2)]
    have td2 : decide (65535 < I) = true := by simpa using d2
    go_enter Try.func110, Try.ntmps110
    go_wp2_with (go_at_call 111; refine (RSlot_any W H M Qu I C _).mono ?_; intro e w1 h; have he := h.1; have hE := h.2; clear h; subst he; have hc1 := hE.cells (w.heap.size + 1) (by first | omega | (simp; done) | (simp; omega)); have hf1 := hE.marks (w.heap.size + 1) (by first | omega | (simp; done) | (simp; omega)); have hs1 := hE.sizes (w.heap.size + 1) (by first | omega | (simp; done) | (simp; omega)); have hg1 := hE.rules.1; have hh1 := hE.rules.2; have hl1_0 : w.heap.size < w1.heap.size := (by omega))
    go_ret
    exact ⟨rfl, by (repeat' (first | exact Ext.refl _ | assumption | refine Ext.alloc' ?_ _ | (refine Ext.set' ?_ (by first | omega | (simp; done) | (simp; omega)) _) | refine Ext.drew' ?_ | refine Ext.drewN' ?_ _ | refine Ext.trans ?_ (by assumption)))⟩
  have td2 : decide (65535 < I) = false := by simpa using d2
  rw [if_neg (by simp [btw_o d1 d2])]
  by_cases f1 : C < 0
  · rw [if_pos (btw_l f1)]
    have tf1 : decide (C < 0) = true := by simpa using f1
    go_enter Try.func110, Try.ntmps110
    go_wp2_with (go_at_call 111; refine (RSlot_any W H M Qu I C _).mono ?_; intro e w1 h; have he := h.1; have hE := h.2; clear h; subst he; have hc1 := hE.cells (w.heap.size + 1) (by first | omega | (simp; done) | (simp; omega)); have hf1 := hE.marks (w.heap.size + 1) (by first | omega | (simp; done) | (simp; omega)); have hs1 := hE.sizes (w.heap.size + 1) (by first | omega | (simp; done) | (simp; omega)); have hg1 := hE.rules.1; have hh1 := hE.rules.2; have hl1_0 : w.heap.size < w1.heap.size := (by omega))
    go_ret
    exact ⟨rfl, by (repeat' (first | exact Ext.refl _ | assumption | refine Ext.alloc' ?_ _ | (refine Ext.set' ?_ (by first | omega | (simp; done) | (simp; omega)) _) | refine Ext.drew' ?_ | refine Ext.drewN' ?_ _ | refine Ext.trans ?_ (by assumption)))⟩
  have tf1 : decide (C < 0) = false := by simpa using f1
  by_cases f2 : 3 < C
  · rw [if_pos (btw_h f2)]
    have tf2 : decide (3 < C) = true := by simpa using f2
    go_enter Try.func110, Try.ntmps110
    go_wp2_with (go_at_call 111; refine (RSlot_any W H M Qu I C _).mono ?_; intro e w1 h; have he := h.1; have hE := h.2; clear h; subst he; have hc1 := hE.cells (w.heap.size + 1) (by first | omega | (simp; done) | (simp; omega)); have hf1 := hE.marks (w.heap.size + 1) (by first | omega | (simp; done) | (simp; omega)); have hs1 := hE.sizes (w.heap.size + 1) (by first | omega | (simp; done) | (simp; omega)); have hg1 := hE.rules.1; have hh1 := hE.rules.2; have hl1_0 : w.heap.size < w1.heap.size := (by omega))
    go_ret
    exact ⟨rfl, by (repeat' (first | exact Ext.refl _ | assumption | refine Ext.alloc' ?_ _ | (refine Ext.set' ?_ (by first | omega | (simp; done) | (simp; omega)) _) | refine Ext.drew' ?_ | refine Ext.drewN' ?_ _ | refine Ext.trans ?_ (by assumption)))⟩
  have tf2 : decide (3 < C) = false := by simpa using f2
  rw [if_neg (by simp [btw_o f1 f2])]
  by_cases g1 : 1048576 < slotV W H M I C
  · rw [if_pos g1]
    have tg1 : decide (1048576 < slotV W H M I C) = true := by simpa using g1
    go_enter Try.func110, Try.ntmps110
    go_wp2_with (go_at_call 111; refine (RSlot_any W H M Qu I C _).mono ?_; intro e w1 h; have he := h.1; have hE := h.2; clear h; subst he; have hc1 := hE.cells (w.heap.size + 1) (by first | omega | (simp; done) | (simp; omega)); have hf1 := hE.marks (w.heap.size + 1) (by first | omega | (simp; done) | (simp; omega)); have hs1 := hE.sizes (w.heap.size + 1) (by first | omega | (simp; done) | (simp; omega)); have hg1 := hE.rules.1; have hh1 := hE.rules.2; have hl1_0 : w.heap.size < w1.heap.size := (by omega))
    go_ret
    exact ⟨rfl, by (repeat' (first | exact Ext.refl _ | assumption | refine Ext.alloc' ?_ _ | (refine Ext.set' ?_ (by first | omega | (simp; done) | (simp; omega)) _) | refine Ext.drew' ?_ | refine Ext.drewN' ?_ _ | refine Ext.trans ?_ (by assumption)))⟩
  rw [if_neg g1]
  have tg1 : decide (1048576 < slotV W H M I C) = false := by simpa using g1
  go_enter Try.func110, Try.ntmps110
  go_wp2_with (go_at_call 111; refine (RSlot_any W H M Qu I C _).mono ?_; intro e w1 h; have he := h.1; have hE := h.2; clear h; subst he; have hc1 := hE.cells (w.heap.size + 1) (by first | omega | (simp; done) | (simp; omega)); have hf1 := hE.marks (w.heap.size + 1) (by first | omega | (simp; done) | (simp; omega)); have hs1 := hE.sizes (w.heap.size + 1) (by first | omega | (simp; done) | (simp; omega)); have hg1 := hE.rules.1; have hh1 := hE.rules.2; have hl1_0 : w.heap.size < w1.heap.size := (by omega))
  go_ret
  exact ⟨rfl, by (repeat' (first | exact Ext.refl _ | assumption | refine Ext.alloc' ?_ _ | (refine Ext.set' ?_ (by first | omega | (simp; done) | (simp; omega)) _) | refine Ext.drew' ?_ | refine Ext.drewN' ?_ _ | refine Ext.trans ?_ (by assumption)))⟩
theorem same_any (a b : Option Addr) (ca cb : Nat) (xs : List Int) (w : World) (hcap : xs.length ≤ 1000)
    (ha : ∀ i u, xs[i]? = some u → ∃ g, a = some ⟨g, 0, none⟩ ∧ w.cell? ⟨g, i, none⟩ = some (.int .i64 u))
    (hb : ∀ i u, xs[i]? = some u → ∃ g, b = some ⟨g, 0, none⟩ ∧ w.cell? ⟨g, i, none⟩ = some (.int .i64 u)) :
    Calls Try.prog 115 #[.slice a xs.length ca, .slice b xs.length cb] w fun e w' => e = .returned (.bool true) ∧ Ext w w' := by
  go_enter Try.func115, Try.ntmps115
  go_wp2
  go_loopw [5] (fun i wr => ∃ k : Nat, k ≤ xs.length ∧ i = .int .i64 k ∧ Ext w wr) (fun i _ => xs.length - (intOf i).toNat)
  case atStart => exact ⟨0, Nat.zero_le _, rfl, Ext.refl _⟩
  case round =>
    obtain ⟨k, hk, rfl, hE⟩ := hrel
    by_cases hlt : k < xs.length
    · obtain ⟨ga, ea, h1⟩ := ha k _ (List.getElem?_eq_getElem hlt)
      obtain ⟨gb, eb, h2⟩ := hb k _ (List.getElem?_eq_getElem hlt)
      subst ea eb
      have l1 := World.block_lt_of_cell? w _ h1
      have l2 := World.block_lt_of_cell? w _ h2
      replace h1 := hE.cell h1
      replace h2 := hE.cell h2
      have l1' := Nat.lt_of_lt_of_le l1 hE.size
      have l2' := Nat.lt_of_lt_of_le l2 hE.size
      clear ha hb
      have hsz := hE.size
      generalize xs[k] = u at *
      go_wp2
      refine Mix.wp_region_mixX (w.heap.size + 0) (.c 0 (.c 1 (.c 2 (.c 3 (.c 4 (.c 5 (.c 6 (.c 7 (.c 8 .done))))))))) (by kernel_rfl) (by kernel_rfl) (by first | omega | (simp; done) | (simp; omega)) (fun hap hapf => ?_)
      have hcx : ∀ x, (ap wr x).cell? ⟨ga, k, none⟩ = some (.int .i64 u) := fun x => (ap_ext wr x).cell h1
      have hcy : ∀ x, (ap wr x).cell? ⟨gb, k, none⟩ = some (.int .i64 u) := fun x => (ap_ext wr x).cell h2
      repeat (refine Mix.mix_q rfl rfl rfl (fun K hK => ?_); (conv => arg 2; whnf); (first | (go_big_quiet_op; refine hK _ ?_) | (go_simp; refine hK _ ?_)); clear hK K)
      (refine Mix.mix_nil (fun w2 hE2 => ?_); clear hap hapf; dsimp only [Exit.then])
      clear hcx hcy
      go_wp2
      go_roundw
      case rel => exact ⟨k + 1, by omega, by go_num, hE.trans ((Ext.refl _).drew'.trans hE2)⟩
      case measure => simp [intOf]; omega
    · go_wp2
      go_ret
      exact ⟨rfl, hE⟩
end Go.Proofs.Ytoipadeeochbnaa
