import Derived.Test.YtoipadeeochbnaaCheck
namespace Go.Proofs.Ytoipadeeochbnaa
open Go.RowKit Mix
attribute [local go_sem] Mix.calm Oper.quietUpon

theorem checkB_eq (W H M Qu I C : Int) (hW : btw W 1 65535 = true) :
    checkB (btw H 1 65535) (decide (wrap64 (W * H) ≤ 67108864)) (btw M 1 4) (btw Qu 1 100) (btw I 1 65535) (btw C 0 3) (decide (slotV W H M I C ≤ 1048576)) = checkV W H M Qu I C := by
  unfold checkV
  rw [show okS W = btw W 1 65535 from rfl, show okS H = btw H 1 65535 from rfl, hW]
  cases h0 : btw H 1 65535
  · simp [checkB]
  have hp : wrap64 (W * H) = W * H := by
    simp only [btw, Bool.and_eq_true, decide_eq_true_eq] at hW h0
    have := Int.mul_le_mul hW.2 h0.2 (by omega) (by omega)
    have h3 : 0 ≤ W * H := Int.mul_nonneg (by omega) (by omega)
    exact wrap_id (by omega) (by omega)
  rw [hp]
  simp only [checkB, cond_true, if_neg (show ¬ ((true : Bool) = false ∨ (true : Bool) = false) by simp)]
  by_cases h1 : W * H ≤ 67108864
  · simp only [h1, decide_true, cond_true, if_neg (show ¬ 67108864 < W * H by omega)]
    by_cases h6 : slotV W H M I C ≤ 1048576
    · cases btw M 1 4 <;> cases btw Qu 1 100 <;> cases btw I 1 65535 <;> cases btw C 0 3 <;> simp [h6, show ¬ 1048576 < slotV W H M I C by omega]
    · cases btw M 1 4 <;> cases btw Qu 1 100 <;> cases btw I 1 65535 <;> cases btw C 0 3 <;> simp [h6, show 1048576 < slotV W H M I C by omega]
  · simp [h1, show 67108864 < W * H by omega]
theorem Check_any (W H M Qu I C : Int) (w : World) : Calls Try.prog 47 #[.agg #[.int .i64 W, .int .i64 H, .int .i64 M, .int .i64 Qu, .int .i64 I, .int .i64 C]] w fun e w' => e = .returned (.int .u16 (checkV W H M Qu I C)) ∧ Ext w w' := by
  cases hW : btw W 1 65535
  · have e : checkV W H M Qu I C = 10 := by unfold checkV; rw [if_pos (.inl hW)]
    rw [e]
    exact Check_w W H M Qu I C hW w
  · rw [← checkB_eq W H M Qu I C hW]
    exact Check_b W H M Qu I C hW w

theorem known14_any (w : World) : Calls Try.prog 41 #[] w fun e w' => e = .returned (.bool true) ∧ Ext w w' := by
  have h1 : roomV 8 8 1 1 0 = 6 := by decide
  have h2 : roomV 8 8 1 1 3 = 416 := by decide
  have h3 : slotV 8 8 1 1 0 = 8 := by decide
  have h4 : checkV 8 8 1 50 1 0 = 0 := by decide
  have h5 : checkV 0 0 0 0 0 0 = 10 := by decide
  go_enter Try.func41, Try.ntmps41
  go_wp2_with (first | (go_at_call 53; refine (Room_any _ _ _ _ _ _ _).mono ?_; intro e w1 h; have he := h.1; have hE := h.2; clear h; subst he; have hc1 := hE.cells (w.heap.size + 2) (by first | omega | (simp; done) | (simp; omega)); have hf1 := hE.marks (w.heap.size + 2) (by first | omega | (simp; done) | (simp; omega)); have hs1 := hE.sizes (w.heap.size + 2) (by first | omega | (simp; done) | (simp; omega)); have hg1 := hE.rules.1; have hh1 := hE.rules.2; have hl1_0 : w.heap.size < w1.heap.size := (by omega); have hl1_1 : w.heap.size + 1 < w1.heap.size := (by omega)) | (go_at_call 55; refine (Slot_any _ _ _ _ _ _ _).mono ?_; intro e w1 h; have he := h.1; have hE := h.2; clear h; subst he; have hc1 := hE.cells (w.heap.size + 2) (by first | omega | (simp; done) | (simp; omega)); have hf1 := hE.marks (w.heap.size + 2) (by first | omega | (simp; done) | (simp; omega)); have hs1 := hE.sizes (w.heap.size + 2) (by first | omega | (simp; done) | (simp; omega)); have hg1 := hE.rules.1; have hh1 := hE.rules.2; have hl1_0 : w.heap.size < w1.heap.size := (by omega); have hl1_1 : w.heap.size + 1 < w1.heap.size := (by omega)) | (go_at_call 47; refine (Check_any _ _ _ _ _ _ _).mono ?_; intro e w1 h; have he := h.1; have hE := h.2; clear h; subst he; have hc1 := hE.cells (w.heap.size + 2) (by first | omega | (simp; done) | (simp; omega)); have hf1 := hE.marks (w.heap.size + 2) (by first | omega | (simp; done) | (simp; omega)); have hs1 := hE.sizes (w.heap.size + 2) (by first | omega | (simp; done) | (simp; omega)); have hg1 := hE.rules.1; have hh1 := hE.rules.2; have hl1_0 : w.heap.size < w1.heap.size := (by omega); have hl1_1 : w.heap.size + 1 < w1.heap.size := (by omega)))
  go_ret
  exact ⟨rfl, by (repeat' (first | exact Ext.refl _ | assumption | refine Ext.alloc' ?_ _ | (refine Ext.set' ?_ (by first | omega | (simp; done) | (simp; omega)) _) | refine Ext.drew' ?_ | refine Ext.drewN' ?_ _ | refine Ext.trans ?_ (by assumption)))⟩
end Go.Proofs.Ytoipadeeochbnaa
