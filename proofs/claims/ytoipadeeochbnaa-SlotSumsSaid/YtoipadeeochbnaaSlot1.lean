import Derived.Test.YtoipadeeochbnaaPlane1
namespace Go.Proofs.Ytoipadeeochbnaa
open Go.RowKit Mix
attribute [local go_sem] Mix.calm Oper.quietUpon

def gridX (W H M : Int) : Int := if sideX M = 0 ∨ okS W = false ∨ okS H = false then 0 else ceilV W (sideX M)
def gridY (W H M : Int) : Int := if sideX M = 0 ∨ okS W = false ∨ okS H = false then 0 else ceilV H (sideY M)
theorem Grid_any (W H M Qu I C : Int) (w : World) : Calls Try.prog 84 #[.agg #[.int .i64 W, .int .i64 H, .int .i64 M, .int .i64 Qu, .int .i64 I, .int .i64 C]] w (TwoInts w (gridX W H M) (gridY W H M)) := by
  by_cases h1 : sideX M = 0
  · have e1 : gridX W H M = 0 := by unfold gridX; rw [if_pos (.inl h1)]
    have e2 : gridY W H M = 0 := by unfold gridY; rw [if_pos (.inl h1)]
    rw [e1, e2]
    have h1' : (sideX M == 0) = true := by simpa using h1
    clear h1 e1 e2
    go_enter Try.func84, Try.ntmps84
    go_wp2_with (go_at_call 85; refine (Side_any _ _).mono ?_; intro e w1 h; have he := h.1; have hE := h.2; clear h; subst he; have hc1 := hE.cells (w.heap.size + 1) (by first | omega | (simp; done) | (simp; omega)); have hf1 := hE.marks (w.heap.size + 1) (by first | omega | (simp; done) | (simp; omega)); have hs1 := hE.sizes (w.heap.size + 1) (by first | omega | (simp; done) | (simp; omega)); have hg1 := hE.rules.1; have hh1 := hE.rules.2; have hl1_0 : w.heap.size < w1.heap.size := (by omega))
    go_ret2
    exact ⟨rfl, by (repeat' (first | exact Ext.refl _ | assumption | refine Ext.alloc' ?_ _ | (refine Ext.set' ?_ (by first | omega | (simp; done) | (simp; omega)) _) | refine Ext.drew' ?_ | refine Ext.drewN' ?_ _ | refine Ext.trans ?_ (by assumption)))⟩
  have h1' : (sideX M == 0) = false := by simpa using h1
  by_cases h2 : okS W = true
  case neg =>
    have h2' : okS W = false := by simpa using h2
    have e1 : gridX W H M = 0 := by unfold gridX; rw [if_pos (.inr (.inl h2'))]
    have e2 : gridY W H M = 0 := by unfold gridY; rw [if_pos (.inr (.inl h2'))]
    rw [e1, e2]
    clear h1 e1 e2 h2
    go_enter Try.func84, Try.ntmps84
    go_wp2_with (first | (go_at_call 85; refine (Side_any _ _).mono ?_; intro e w1 h; have he := h.1; have hE := h.2; clear h; subst he; have hc1 := hE.cells (w.heap.size + 1) (by first | omega | (simp; done) | (simp; omega)); have hf1 := hE.marks (w.heap.size + 1) (by first | omega | (simp; done) | (simp; omega)); have hs1 := hE.sizes (w.heap.size + 1) (by first | omega | (simp; done) | (simp; omega)); have hg1 := hE.rules.1; have hh1 := hE.rules.2; have hl1_0 : w.heap.size < w1.heap.size := (by omega)) | (go_at_call 141; refine (side_any _ _).mono ?_; intro e w2 h; have he := h.1; have hw := h.2; clear h; subst he; subst hw))
    go_ret2
    exact ⟨rfl, by (repeat' (first | exact Ext.refl _ | assumption | refine Ext.alloc' ?_ _ | (refine Ext.set' ?_ (by first | omega | (simp; done) | (simp; omega)) _) | refine Ext.drew' ?_ | refine Ext.drewN' ?_ _ | refine Ext.trans ?_ (by assumption)))⟩
  by_cases h3 : okS H = true
  case neg =>
    have h3' : okS H = false := by simpa using h3
    have e1 : gridX W H M = 0 := by unfold gridX; rw [if_pos (.inr (.inr h3'))]
    have e2 : gridY W H M = 0 := by unfold gridY; rw [if_pos (.inr (.inr h3'))]
    rw [e1, e2]
    clear h1 e1 e2 h3
    go_enter Try.func84, Try.ntmps84
    go_wp2_with (first | (go_at_call 85; refine (Side_any _ _).mono ?_; intro e w1 h; have he := h.1; have hE := h.2; clear h; subst he; have hc1 := hE.cells (w.heap.size + 1) (by first | omega | (simp; done) | (simp; omega)); have hf1 := hE.marks (w.heap.size + 1) (by first | omega | (simp; done) | (simp; omega)); have hs1 := hE.sizes (w.heap.size + 1) (by first | omega | (simp; done) | (simp; omega)); have hg1 := hE.rules.1; have hh1 := hE.rules.2; have hl1_0 : w.heap.size < w1.heap.size := (by omega)) | (go_at_call 141; refine (side_any _ _).mono ?_; intro e w2 h; have he := h.1; have hw := h.2; clear h; subst he; subst hw))
    go_ret2
    exact ⟨rfl, by (repeat' (first | exact Ext.refl _ | assumption | refine Ext.alloc' ?_ _ | (refine Ext.set' ?_ (by first | omega | (simp; done) | (simp; omega)) _) | refine Ext.drew' ?_ | refine Ext.drewN' ?_ _ | refine Ext.trans ?_ (by assumption)))⟩
  have e1 : gridX W H M = ceilV W (sideX M) := by unfold gridX; rw [if_neg (by simp [h1, h2, h3])]
  have e2 : gridY W H M = ceilV H (sideY M) := by unfold gridY; rw [if_neg (by simp [h1, h2, h3])]
  rw [e1, e2]
  clear h1 e1 e2
  go_enter Try.func84, Try.ntmps84
  go_wp2_with (first | (go_at_call 85; refine (Side_any _ _).mono ?_; intro e w1 h; have he := h.1; have hE := h.2; clear h; subst he; have hc1 := hE.cells (w.heap.size + 1) (by first | omega | (simp; done) | (simp; omega)); have hf1 := hE.marks (w.heap.size + 1) (by first | omega | (simp; done) | (simp; omega)); have hs1 := hE.sizes (w.heap.size + 1) (by first | omega | (simp; done) | (simp; omega)); have hg1 := hE.rules.1; have hh1 := hE.rules.2; have hl1_0 : w.heap.size < w1.heap.size := (by omega)) | (go_at_call 141; refine (side_any _ _).mono ?_; intro e w2 h; have he := h.1; have hw := h.2; clear h; subst he; subst hw))
  refine Mix.wp_region_mixX (w.heap.size + 1) (.c 0 (.c 1 (.c 2 (.c 3 (.c 4 (.c 5 (.c 6 (.c 7 (.c 8 (.c 9 .done)))))))))) (by kernel_rfl) (by kernel_rfl) (by first | omega | (simp; done) | (simp; omega)) (fun hap hapf => ?_)
  repeat (refine Mix.mix_q rfl rfl rfl (fun K hK => ?_); (conv => arg 2; whnf); go_big_quiet_op; refine hK _ ?_; clear hK K)
  (refine Mix.mix_c rfl rfl (fun K hK => ?_); (conv => arg 2; whnf); go_simp; apply Exists.intro; refine ⟨fun _ => ?_, hK _ ?_⟩; exact Mix.se (Ceil_any _ _ _); clear hK K)
  repeat (refine Mix.mix_q rfl rfl rfl (fun K hK => ?_); (conv => arg 2; whnf); go_big_quiet_op; refine hK _ ?_; clear hK K)
  (refine Mix.mix_c rfl rfl (fun K hK => ?_); (conv => arg 2; whnf); go_simp; apply Exists.intro; refine ⟨fun _ => ?_, hK _ ?_⟩; exact Mix.se (Ceil_any _ _ _); clear hK K)
  repeat (refine Mix.mix_q rfl rfl rfl (fun K hK => ?_); (conv => arg 2; whnf); go_big_quiet_op; refine hK _ ?_; clear hK K)
  (refine Mix.mix_nil (fun w2 hE2 => ?_); clear hap hapf; have hc2 := hE2.cells (w.heap.size + 1) (by first | omega | (simp; done) | (simp; omega)); have hf2 := hE2.marks (w.heap.size + 1) (by first | omega | (simp; done) | (simp; omega)); have hs2 := hE2.sizes (w.heap.size + 1) (by first | omega | (simp; done) | (simp; omega)); have hg2 := hE2.rules.1; have hh2 := hE2.rules.2; have hl2_0 : w.heap.size < w2.heap.size := (by omega); dsimp only [Exit.then])
  go_wp2
  go_ret2
  exact ⟨rfl, by (repeat' (first | exact Ext.refl _ | assumption | refine Ext.alloc' ?_ _ | (refine Ext.set' ?_ (by first | omega | (simp; done) | (simp; omega)) _) | refine Ext.drew' ?_ | refine Ext.drewN' ?_ _ | refine Ext.trans ?_ (by assumption)))⟩
end Go.Proofs.Ytoipadeeochbnaa
