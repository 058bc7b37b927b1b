import Derived.Test.YtoipadeeochbnaaSlot1
import Derived.Test.YtoipadeeochbnaaParts
namespace Go.Proofs.Ytoipadeeochbnaa
open Go.RowKit Mix
attribute [local go_sem] Mix.calm Oper.quietUpon

def btw (n lo hi : Int) : Bool := decide (lo ≤ n) && decide (n ≤ hi)
theorem between_any (n lo hi : Int) (w : World) : Calls Try.prog 109 #[.int .i64 n, .int .i64 lo, .int .i64 hi] w fun e w' => e = .returned (.bool (btw n lo hi)) ∧ w = w' := by
  by_cases h : lo ≤ n
  · have e1 : btw n lo hi = decide (n ≤ hi) := by simp [btw, h]
    rw [e1]
    go_enter Try.func109, Try.ntmps109
    go_wp2
    go_ret
    exact ⟨rfl, rfl⟩
  · have e1 : btw n lo hi = false := by simp [btw, h]
    rw [e1]
    have h' : decide (lo ≤ n) = false := by simpa using h
    go_enter Try.func109, Try.ntmps109
    go_wp2
    go_ret
    exact ⟨rfl, rfl⟩

theorem sideX_cases (m : Int) : sideX m = 0 ∨ sideX m = 8 ∨ sideX m = 16 := by unfold sideX; split <;> (try split) <;> simp
theorem sideY_cases (m : Int) : sideY m = 0 ∨ sideY m = 8 ∨ sideY m = 16 := by unfold sideY; split <;> (try split) <;> simp
theorem sideXY (m : Int) : sideX m = 0 ↔ sideY m = 0 := by unfold sideX sideY; split <;> split <;> (try split) <;> (try split) <;> omega
theorem okS_iff (n : Int) : okS n = true ↔ 1 ≤ n ∧ n ≤ 65535 := by simp [okS]
theorem gridX_bd (W H M : Int) : 0 ≤ gridX W H M ∧ gridX W H M ≤ 8192 := by
  unfold gridX
  split
  · omega
  · rename_i h
    have h2 : okS W = true := by
      cases hh : okS W with
      | true => rfl
      | false => exact absurd (.inr (.inl hh)) h
    rw [okS_iff] at h2
    have hs := sideX_cases M
    unfold ceilV
    rcases hs with e | e | e
    · exact absurd (.inl e) h
    · rw [e, if_pos (by omega)]; omega
    · rw [e, if_pos (by omega)]; omega
theorem gridY_bd (W H M : Int) : 0 ≤ gridY W H M ∧ gridY W H M ≤ 8192 := by
  unfold gridY
  split
  · omega
  · rename_i h
    have h2 : okS H = true := by
      cases hh : okS H with
      | true => rfl
      | false => exact absurd (.inr (.inr hh)) h
    rw [okS_iff] at h2
    have hs := sideY_cases M
    have hx := sideXY M
    unfold ceilV
    rcases hs with e | e | e
    · exact absurd (.inl (hx.2 e)) h
    · rw [e, if_pos (by omega)]; omega
    · rw [e, if_pos (by omega)]; omega
def mcusV (W H M : Int) : Int := gridX W H M * gridY W H M
theorem mcusV_bd (W H M : Int) : 0 ≤ mcusV W H M ∧ mcusV W H M ≤ 67108864 := by
  have h1 := gridX_bd W H M
  have h2 := gridY_bd W H M
  unfold mcusV
  generalize gridX W H M = x at *
  generalize gridY W H M = y at *
  refine ⟨Int.mul_nonneg h1.1 h2.1, ?_⟩
  have := Int.mul_le_mul h1.2 h2.2 h2.1 (by omega : (0:Int) ≤ 8192)
  omega
theorem wrap_id {n : Int} (h0 : -9223372036854775808 ≤ n) (h1 : n ≤ 9223372036854775807) : wrap64 n = n := by unfold wrap64; omega

theorem mcus_any (W H M Qu I C : Int) (w : World) : Calls Try.prog 119 #[.agg #[.int .i64 W, .int .i64 H, .int .i64 M, .int .i64 Qu, .int .i64 I, .int .i64 C]] w fun e w' => e = .returned (.int .i64 (mcusV W H M)) ∧ Ext w w' := by
  have hm := mcusV_bd W H M
  have e : mcusV W H M = wrap64 (gridX W H M * gridY W H M) := by rw [wrap_id (by unfold mcusV at hm; omega) (by unfold mcusV at hm; omega)]; rfl
  rw [e]
  clear hm e
  go_enter Try.func119, Try.ntmps119
  go_wp2_with (go_at_call 84; refine (Grid_any W H M Qu I C _).mono ?_; intro e w1 h; have he := h.1; have hE := h.2; clear h; subst he; have hc1 := hE.cells (w.heap.size + 1) (by first | omega | (simp; done) | (simp; omega)); have hf1 := hE.marks (w.heap.size + 1) (by first | omega | (simp; done) | (simp; omega)); have hs1 := hE.sizes (w.heap.size + 1) (by first | omega | (simp; done) | (simp; omega)); have hg1 := hE.rules.1; have hh1 := hE.rules.2; have hl1_0 : w.heap.size < w1.heap.size := (by omega))
  go_ret
  exact ⟨rfl, by (repeat' (first | exact Ext.refl _ | assumption | refine Ext.alloc' ?_ _ | (refine Ext.set' ?_ (by first | omega | (simp; done) | (simp; omega)) _) | refine Ext.drew' ?_ | refine Ext.drewN' ?_ _ | refine Ext.trans ?_ (by assumption)))⟩

def interV (W H M I : Int) : Int := if 1 ≤ I ∧ I ≤ 65535 then ceilV (mcusV W H M) I else 0
theorem Intervals_any (W H M Qu I C : Int) (w : World) : Calls Try.prog 51 #[.agg #[.int .i64 W, .int .i64 H, .int .i64 M, .int .i64 Qu, .int .i64 I, .int .i64 C]] w fun e w' => e = .returned (.int .i64 (interV W H M I)) ∧ Ext w w' := by
  by_cases h : 1 ≤ I ∧ I ≤ 65535
  · have e : interV W H M I = ceilV (mcusV W H M) I := by unfold interV; rw [if_pos h]
    have hb : btw I 1 65535 = true := by simp [btw, h]
    rw [e]
    clear h e
    go_enter Try.func51, Try.ntmps51
    go_wp2_with (go_at_call 109; refine (between_any _ _ _ _).mono ?_; intro e w2 h; have he := h.1; have hw := h.2; clear h; subst he; subst hw)
    refine Mix.wp_region_mixX (w.heap.size + 1) (.c 0 (.c 1 (.c 2 (.c 3 (.c 4 (.c 5 .done)))))) (by kernel_rfl) (by kernel_rfl) (by first | omega | (simp; done) | (simp; omega)) (fun hap hapf => ?_)
    repeat (refine Mix.mix_q rfl rfl rfl (fun K hK => ?_); (conv => arg 2; whnf); go_big_quiet_op; refine hK _ ?_; clear hK K)
    (refine Mix.mix_c rfl rfl (fun K hK => ?_); (conv => arg 2; whnf); go_simp; apply Exists.intro; refine ⟨fun _ => ?_, hK _ ?_⟩; exact mcus_any W H M Qu I C _; clear hK K)
    repeat (refine Mix.mix_q rfl rfl rfl (fun K hK => ?_); (conv => arg 2; whnf); go_big_quiet_op; refine hK _ ?_; clear hK K)
    (refine Mix.mix_c rfl rfl (fun K hK => ?_); (conv => arg 2; whnf); go_simp; apply Exists.intro; refine ⟨fun _ => ?_, hK _ ?_⟩; exact Mix.se (Ceil_any _ _ _); clear hK K)
    repeat (refine Mix.mix_q rfl rfl rfl (fun K hK => ?_); (conv => arg 2; whnf); go_big_quiet_op; refine hK _ ?_; clear hK K)
    (refine Mix.mix_nil (fun w2 hE2 => ?_); clear hap hapf; have hc2 := hE2.cells (w.heap.size + 1) (by first | omega | (simp; done) | (simp; omega)); have hf2 := hE2.marks (w.heap.size + 1) (by first | omega | (simp; done) | (simp; omega)); have hs2 := hE2.sizes (w.heap.size + 1) (by first | omega | (simp; done) | (simp; omega)); have hg2 := hE2.rules.1; have hh2 := hE2.rules.2; have hl2_0 : w.heap.size < w2.heap.size := (by omega); dsimp only [Exit.then])
    go_wp2
    go_ret
    exact ⟨rfl, by (repeat' (first | exact Ext.refl _ | assumption | refine Ext.alloc' ?_ _ | (refine Ext.set' ?_ (by first | omega | (simp; done) | (simp; omega)) _) | refine Ext.drew' ?_ | refine Ext.drewN' ?_ _ | refine Ext.trans ?_ (by assumption)))⟩
  · have e : interV W H M I = 0 := by unfold interV; rw [if_neg h]
    have hb : btw I 1 65535 = false := by simp only [btw, Bool.and_eq_false_iff, decide_eq_false_iff_not]; omega
    rw [e]
    clear h e
    go_enter Try.func51, Try.ntmps51
    go_wp2_with (go_at_call 109; refine (between_any _ _ _ _).mono ?_; intro e w2 h; have he := h.1; have hw := h.2; clear h; subst he; subst hw)
    go_ret
    exact ⟨rfl, by (repeat' (first | exact Ext.refl _ | assumption | refine Ext.alloc' ?_ _ | (refine Ext.set' ?_ (by first | omega | (simp; done) | (simp; omega)) _) | refine Ext.drew' ?_ | refine Ext.drewN' ?_ _ | refine Ext.trans ?_ (by assumption)))⟩
end Go.Proofs.Ytoipadeeochbnaa
