import Derived.Test.YtoipadeeochbnaaProg
import Derived.Test.YtoipadeeochbnaaMix
import Derived.Test.YtoipadeeochbnaaNum
import Derived.WalkKit
import Derived.Outline
import Derived.BigQuiet
namespace Go.Proofs.Ytoipadeeochbnaa
open Go.RowKit Mix

theorem of_any (x : Int) (w : World) : Calls Try.prog 27 #[.int .i64 x] w fun e w' => e = .returned (.agg #[.int .i64 x]) ∧ Ext w w' := by
  go_enter Try.func27, Try.ntmps27
  go_wp2
  refine bodyPost_ret (v := .agg #[.int .i64 x]) (by simp [results, Try.results27, go_sem, *]) rfl ?_
  exact ⟨rfl, by (repeat' (first | exact Ext.refl _ | assumption | refine Ext.alloc' ?_ _ | (refine Ext.set' ?_ (by first | omega | (simp; done) | (simp; omega)) _) | refine Ext.drew' ?_ | refine Ext.drewN' ?_ _ | refine Ext.trans ?_ (by assumption)))⟩

theorem Add_any (x y : Int) (w : World) : Calls Try.prog 131 #[.agg #[.int .i64 x], .agg #[.int .i64 y]] w fun e w' => e = .returned (.agg #[.int .i64 (wrap64 (x + y))]) ∧ Ext w w' := by
  go_enter Try.func131, Try.ntmps131
  go_wp2
  refine bodyPost_ret (v := .agg #[.int .i64 (wrap64 (x + y))]) (by simp [results, Try.results131, go_sem, *]) rfl ?_
  exact ⟨rfl, by (repeat' (first | exact Ext.refl _ | assumption | refine Ext.alloc' ?_ _ | (refine Ext.set' ?_ (by first | omega | (simp; done) | (simp; omega)) _) | refine Ext.drew' ?_ | refine Ext.drewN' ?_ _ | refine Ext.trans ?_ (by assumption)))⟩
theorem Mul_any (x y : Int) (w : World) : Calls Try.prog 128 #[.agg #[.int .i64 x], .agg #[.int .i64 y]] w fun e w' => e = .returned (.agg #[.int .i64 (wrap64 (x * y))]) ∧ Ext w w' := by
  go_enter Try.func128, Try.ntmps128
  go_wp2
  refine bodyPost_ret (v := .agg #[.int .i64 (wrap64 (x * y))]) (by simp [results, Try.results128, go_sem, *]) rfl ?_
  exact ⟨rfl, by (repeat' (first | exact Ext.refl _ | assumption | refine Ext.alloc' ?_ _ | (refine Ext.set' ?_ (by first | omega | (simp; done) | (simp; omega)) _) | refine Ext.drew' ?_ | refine Ext.drewN' ?_ _ | refine Ext.trans ?_ (by assumption)))⟩
theorem And_any (x y : Int) (w : World) : Calls Try.prog 136 #[.agg #[.int .i64 x], .agg #[.int .i64 y]] w fun e w' => e = .returned (.agg #[.int .i64 (bits .and .i64 x y)]) ∧ Ext w w' := by
  go_enter Try.func136, Try.ntmps136
  go_wp2
  refine bodyPost_ret (v := .agg #[.int .i64 (bits .and .i64 x y)]) (by simp [results, Try.results136, go_sem, *]) rfl ?_
  exact ⟨rfl, by (repeat' (first | exact Ext.refl _ | assumption | refine Ext.alloc' ?_ _ | (refine Ext.set' ?_ (by first | omega | (simp; done) | (simp; omega)) _) | refine Ext.drew' ?_ | refine Ext.drewN' ?_ _ | refine Ext.trans ?_ (by assumption)))⟩
theorem Or_any (x y : Int) (w : World) : Calls Try.prog 135 #[.agg #[.int .i64 x], .agg #[.int .i64 y]] w fun e w' => e = .returned (.agg #[.int .i64 (bits .or .i64 x y)]) ∧ Ext w w' := by
  go_enter Try.func135, Try.ntmps135
  go_wp2
  refine bodyPost_ret (v := .agg #[.int .i64 (bits .or .i64 x y)]) (by simp [results, Try.results135, go_sem, *]) rfl ?_
  exact ⟨rfl, by (repeat' (first | exact Ext.refl _ | assumption | refine Ext.alloc' ?_ _ | (refine Ext.set' ?_ (by first | omega | (simp; done) | (simp; omega)) _) | refine Ext.drew' ?_ | refine Ext.drewN' ?_ _ | refine Ext.trans ?_ (by assumption)))⟩
theorem Neg_any (x : Int) (w : World) : Calls Try.prog 132 #[.agg #[.int .i64 x]] w fun e w' => e = .returned (.agg #[.int .i64 (wrap64 (-x))]) ∧ Ext w w' := by
  go_enter Try.func132, Try.ntmps132
  go_wp2
  refine bodyPost_ret (v := .agg #[.int .i64 (wrap64 (-x))]) (by simp [results, Try.results132, go_sem, *]) rfl ?_
  exact ⟨rfl, by (repeat' (first | exact Ext.refl _ | assumption | refine Ext.alloc' ?_ _ | (refine Ext.set' ?_ (by first | omega | (simp; done) | (simp; omega)) _) | refine Ext.drew' ?_ | refine Ext.drewN' ?_ _ | refine Ext.trans ?_ (by assumption)))⟩
theorem sign_any (x : Int) (w : World) : Calls Try.prog 156 #[.agg #[.int .i64 x]] w fun e w' => e = .returned (.agg #[.int .i64 (x / 9223372036854775808)]) ∧ Ext w w' := by
  go_enter Try.func156, Try.ntmps156
  go_wp2
  refine bodyPost_ret (v := .agg #[.int .i64 (x / 9223372036854775808)]) (by simp [results, Try.results156, go_sem, *]) rfl ?_
  exact ⟨rfl, by (repeat' (first | exact Ext.refl _ | assumption | refine Ext.alloc' ?_ _ | (refine Ext.set' ?_ (by first | omega | (simp; done) | (simp; omega)) _) | refine Ext.drew' ?_ | refine Ext.drewN' ?_ _ | refine Ext.trans ?_ (by assumption)))⟩
theorem shift_any (n : Int) (w : World) : Calls Try.prog 168 #[.int .i64 n] w fun e w' => e = .returned (.int .i64 (clip63 n)) ∧ w = w' := by
  by_cases h1 : 63 < n
  · have h2 : clip63 n = 63 := by unfold clip63; rw [if_neg (by omega), if_pos (by omega)]
    rw [h2]
    go_enter Try.func168, Try.ntmps168
    go_wp2
    go_ret
    exact ⟨rfl, rfl⟩
  · by_cases h3 : 0 < n
    · have h2 : clip63 n = n := by unfold clip63; rw [if_neg (by omega), if_neg (by omega)]
      rw [h2]
      go_enter Try.func168, Try.ntmps168
      go_wp2
      go_ret
      exact ⟨rfl, rfl⟩
    · have h2 : clip63 n = 0 := by unfold clip63; split <;> (try split) <;> omega
      rw [h2]
      go_enter Try.func168, Try.ntmps168
      go_wp2
      go_ret
      exact ⟨rfl, rfl⟩
theorem Less_any (x y : Int) (hx : In64 x) (hy : In64 y) (w : World) : Calls Try.prog 99 #[.agg #[.int .i64 x], .agg #[.int .i64 y]] w fun e w' => e = .returned (.agg #[.int .i64 (mk (decide (x < y)))]) ∧ Ext w w' := by
  rw [← less_raw hx hy]
  go_enter Try.func99, Try.ntmps99
  go_wp2_with (go_at_call 156; refine (sign_any _ _).mono ?_; intro e w1 h; have he := h.1; have hE := h.2; clear h; subst he; have hc1 := hE.cells (w.heap.size + 3) (by first | omega | (simp; done) | (simp; omega)); have hf1 := hE.marks (w.heap.size + 3) (by first | omega | (simp; done) | (simp; omega)); have hs1 := hE.sizes (w.heap.size + 3) (by first | omega | (simp; done) | (simp; omega)); have hg1 := hE.rules.1; have hh1 := hE.rules.2; have hl1_0 : w.heap.size < w1.heap.size := (by omega); have hl1_1 : w.heap.size + 1 < w1.heap.size := (by omega); have hl1_2 : w.heap.size + 1 + 1 < w1.heap.size := (by omega))
  refine bodyPost_ret (v := _) (by simp [results, Try.results99, go_sem, *]; rfl) rfl ?_
  exact ⟨rfl, by (repeat' (first | exact Ext.refl _ | assumption | refine Ext.alloc' ?_ _ | (refine Ext.set' ?_ (by first | omega | (simp; done) | (simp; omega)) _) | refine Ext.drew' ?_ | refine Ext.drewN' ?_ _ | refine Ext.trans ?_ (by assumption)))⟩

attribute [local go_sem] Mix.calm Oper.quietUpon
theorem Shr_any (x n : Int) (w : World) : Calls Try.prog 129 #[.agg #[.int .i64 x], .int .i64 n] w fun e w' => e = .returned (.agg #[.int .i64 (x / 2 ^ (clip63 n).toNat)]) ∧ Ext w w' := by
  have hb := clip63_bd n
  go_enter Try.func129, Try.ntmps129
  go_wp2
  refine Mix.wp_region_mixX (w.heap.size + 2) (.c 0 (.c 1 (.c 2 (.c 3 (.c 4 (.c 5 (.e 6 .done))))))) (by kernel_rfl) (by kernel_rfl) (by first | omega | (simp; done) | (simp; omega)) (fun hap hapf => ?_)
  repeat (refine Mix.mix_q rfl rfl rfl (fun K hK => ?_); (conv => arg 2; whnf); (first | (go_big_quiet_op; refine hK _ ?_) | (go_simp; refine hK _ ?_)); clear hK K)
  (refine Mix.mix_c rfl rfl (fun K hK => ?_); (conv => arg 2; whnf); go_simp; apply Exists.intro; refine ⟨fun _ => ?_, hK _ ?_⟩; exact Mix.se (shift_any _ _); clear hK K)
  repeat (refine Mix.mix_q rfl rfl rfl (fun K hK => ?_); (conv => arg 2; whnf); (first | (go_big_quiet_op; refine hK _ ?_) | (go_simp; refine hK _ ?_)); clear hK K)
  (refine Mix.mix_last rfl rfl (by kernel_rfl) (fun w1 hE K hK => ?_); (conv => arg 2; whnf); clear hap hapf; have hc1 := hE.cells (w.heap.size + 2) (by first | omega | (simp; done) | (simp; omega)); have hf1 := hE.marks (w.heap.size + 2) (by first | omega | (simp; done) | (simp; omega)); have hs1 := hE.sizes (w.heap.size + 2) (by first | omega | (simp; done) | (simp; omega)); have hg1 := hE.rules.1; have hh1 := hE.rules.2; have hl1_0 : w.heap.size < w1.heap.size := (by omega); have hl1_1 : w.heap.size + 1 < w1.heap.size := (by omega); go_big_op; refine hK _ _ (fun w2 hE2 => ?_); clear hK K; have hc2 := hE2.cells (w.heap.size + 2) (by first | omega | (simp; done) | (simp; omega)); have hf2 := hE2.marks (w.heap.size + 2) (by first | omega | (simp; done) | (simp; omega)); have hs2 := hE2.sizes (w.heap.size + 2) (by first | omega | (simp; done) | (simp; omega)); have hg2 := hE2.rules.1; have hh2 := hE2.rules.2; have hl2_0 : w.heap.size < w2.heap.size := (by omega); have hl2_1 : w.heap.size + 1 < w2.heap.size := (by omega); dsimp only [Exit.then])
  go_wp2
  refine bodyPost_ret (v := .agg #[.int .i64 (x / 2 ^ (clip63 n).toNat)]) (by simp [results, Try.results129, go_sem, *]) rfl ?_
  exact ⟨rfl, by (repeat' (first | exact Ext.refl _ | assumption | refine Ext.alloc' ?_ _ | (refine Ext.set' ?_ (by first | omega | (simp; done) | (simp; omega)) _) | refine Ext.drew' ?_ | refine Ext.drewN' ?_ _ | refine Ext.trans ?_ (by assumption)))⟩
theorem Shl_any (x n : Int) (w : World) : Calls Try.prog 138 #[.agg #[.int .i64 x], .int .i64 n] w fun e w' => e = .returned (.agg #[.int .i64 (wrap64 (x * 2 ^ (clip63 n).toNat))]) ∧ Ext w w' := by
  have hb := clip63_bd n
  go_enter Try.func138, Try.ntmps138
  go_wp2
  refine Mix.wp_region_mixX (w.heap.size + 2) (.c 0 (.c 1 (.c 2 (.c 3 (.c 4 (.c 5 (.e 6 .done))))))) (by kernel_rfl) (by kernel_rfl) (by first | omega | (simp; done) | (simp; omega)) (fun hap hapf => ?_)
  repeat (refine Mix.mix_q rfl rfl rfl (fun K hK => ?_); (conv => arg 2; whnf); (first | (go_big_quiet_op; refine hK _ ?_) | (go_simp; refine hK _ ?_)); clear hK K)
  (refine Mix.mix_c rfl rfl (fun K hK => ?_); (conv => arg 2; whnf); go_simp; apply Exists.intro; refine ⟨fun _ => ?_, hK _ ?_⟩; exact Mix.se (shift_any _ _); clear hK K)
  repeat (refine Mix.mix_q rfl rfl rfl (fun K hK => ?_); (conv => arg 2; whnf); (first | (go_big_quiet_op; refine hK _ ?_) | (go_simp; refine hK _ ?_)); clear hK K)
  (refine Mix.mix_last rfl rfl (by kernel_rfl) (fun w1 hE K hK => ?_); (conv => arg 2; whnf); clear hap hapf; have hc1 := hE.cells (w.heap.size + 2) (by first | omega | (simp; done) | (simp; omega)); have hf1 := hE.marks (w.heap.size + 2) (by first | omega | (simp; done) | (simp; omega)); have hs1 := hE.sizes (w.heap.size + 2) (by first | omega | (simp; done) | (simp; omega)); have hg1 := hE.rules.1; have hh1 := hE.rules.2; have hl1_0 : w.heap.size < w1.heap.size := (by omega); have hl1_1 : w.heap.size + 1 < w1.heap.size := (by omega); go_big_op; refine hK _ _ (fun w2 hE2 => ?_); clear hK K; have hc2 := hE2.cells (w.heap.size + 2) (by first | omega | (simp; done) | (simp; omega)); have hf2 := hE2.marks (w.heap.size + 2) (by first | omega | (simp; done) | (simp; omega)); have hs2 := hE2.sizes (w.heap.size + 2) (by first | omega | (simp; done) | (simp; omega)); have hg2 := hE2.rules.1; have hh2 := hE2.rules.2; have hl2_0 : w.heap.size < w2.heap.size := (by omega); have hl2_1 : w.heap.size + 1 < w2.heap.size := (by omega); dsimp only [Exit.then])
  go_wp2
  refine bodyPost_ret (v := .agg #[.int .i64 (wrap64 (x * 2 ^ (clip63 n).toNat))]) (by simp [results, Try.results138, go_sem, *]) rfl ?_
  exact ⟨rfl, by (repeat' (first | exact Ext.refl _ | assumption | refine Ext.alloc' ?_ _ | (refine Ext.set' ?_ (by first | omega | (simp; done) | (simp; omega)) _) | refine Ext.drew' ?_ | refine Ext.drewN' ?_ _ | refine Ext.trans ?_ (by assumption)))⟩
theorem Equal_any (x y : Int) (hx : In64 x) (hy : In64 y) (w : World) : Calls Try.prog 164 #[.agg #[.int .i64 x], .agg #[.int .i64 y]] w fun e w' => e = .returned (.agg #[.int .i64 (mk (decide (x = y)))]) ∧ Ext w w' := by
  rw [← equal_raw hx hy, ← sign_raw (bnot_raw _ (in64_bor _ _)), ← bxor_neg1 (in64_bor _ _)]
  go_enter Try.func164, Try.ntmps164
  go_wp2_with (go_at_call 156; refine (sign_any _ _).mono ?_; intro e w1 h; have he := h.1; have hE := h.2; clear h; subst he; have hc1 := hE.cells (w.heap.size + 3) (by first | omega | (simp; done) | (simp; omega)); have hf1 := hE.marks (w.heap.size + 3) (by first | omega | (simp; done) | (simp; omega)); have hs1 := hE.sizes (w.heap.size + 3) (by first | omega | (simp; done) | (simp; omega)); have hg1 := hE.rules.1; have hh1 := hE.rules.2; have hl1_0 : w.heap.size < w1.heap.size := (by omega); have hl1_1 : w.heap.size + 1 < w1.heap.size := (by omega); have hl1_2 : w.heap.size + 1 + 1 < w1.heap.size := (by omega))
  refine bodyPost_ret (v := _) (by simp [results, Try.results164, go_sem, *]; rfl) rfl ?_
  exact ⟨rfl, by (repeat' (first | exact Ext.refl _ | assumption | refine Ext.alloc' ?_ _ | (refine Ext.set' ?_ (by first | omega | (simp; done) | (simp; omega)) _) | refine Ext.drew' ?_ | refine Ext.drewN' ?_ _ | refine Ext.trans ?_ (by assumption)))⟩
theorem Select_any (b : Bool) (x y : Int) (hx : In64 x) (hy : In64 y) (w : World) : Calls Try.prog 100 #[.agg #[.int .i64 (mk b)], .agg #[.int .i64 x], .agg #[.int .i64 y]] w fun e w' => e = .returned (.agg #[.int .i64 (sel b x y)]) ∧ Ext w w' := by
  rw [← select_raw b hx hy]
  generalize mk b = m
  go_enter Try.func100, Try.ntmps100
  go_wp2
  refine bodyPost_ret (v := _) (by simp [results, Try.results100, go_sem, *]; rfl) rfl ?_
  exact ⟨rfl, by (repeat' (first | exact Ext.refl _ | assumption | refine Ext.alloc' ?_ _ | (refine Ext.set' ?_ (by first | omega | (simp; done) | (simp; omega)) _) | refine Ext.drew' ?_ | refine Ext.drewN' ?_ _ | refine Ext.trans ?_ (by assumption)))⟩
/-- The amount of a number that has one. -/
def absV (x : Int) : Int := if x < 0 then -x else x
theorem abs_raw {x : Int} (hx : In64 x) : sel (decide (x < 0)) (wrap64 (-x)) x = wrap64 (absV x) := by
  unfold In64 at hx
  unfold absV
  by_cases h : x < 0
  · simp [h, sel]
  · rw [if_neg h]; simp only [h, decide_false, sel]; unfold wrap64; omega
theorem Abs_any (x : Int) (hx : In64 x) (w : World) : Calls Try.prog 130 #[.agg #[.int .i64 x]] w fun e w' => e = .returned (.agg #[.int .i64 (wrap64 (absV x))]) ∧ Ext w w' := by
  rw [← abs_raw hx]
  have hsg := sign_raw hx
  go_enter Try.func130, Try.ntmps130
  go_wp2
  refine Mix.wp_region_mixX (w.heap.size + 2) (.c 0 (.c 1 (.c 2 (.c 3 (.c 4 (.c 5 (.e 6 .done))))))) (by kernel_rfl) (by kernel_rfl) (by first | omega | (simp; done) | (simp; omega)) (fun hap hapf => ?_)
  repeat (refine Mix.mix_q rfl rfl rfl (fun K hK => ?_); (conv => arg 2; whnf); (first | (go_big_quiet_op; refine hK _ ?_) | (go_simp; refine hK _ ?_)); clear hK K)
  (refine Mix.mix_c rfl rfl (fun K hK => ?_); (conv => arg 2; whnf); go_simp; apply Exists.intro; refine ⟨fun _ => ?_, hK _ ?_⟩; exact sign_any _ _; clear hK K)
  repeat (refine Mix.mix_q rfl rfl rfl (fun K hK => ?_); (conv => arg 2; whnf); (first | (go_big_quiet_op; refine hK _ ?_) | (go_simp; refine hK _ ?_)); clear hK K)
  (refine Mix.mix_c rfl rfl (fun K hK => ?_); (conv => arg 2; whnf); go_simp; apply Exists.intro; refine ⟨fun _ => ?_, hK _ ?_⟩; exact Neg_any _ _; clear hK K)
  repeat (refine Mix.mix_q rfl rfl rfl (fun K hK => ?_); (conv => arg 2; whnf); (first | (go_big_quiet_op; refine hK _ ?_) | (go_simp; refine hK _ ?_)); clear hK K)
  (refine Mix.mix_c rfl rfl (fun K hK => ?_); (conv => arg 2; whnf); go_simp; apply Exists.intro; refine ⟨fun _ => ?_, hK _ ?_⟩; exact Select_any _ _ _ (in64_wrap _) hx _; clear hK K)
  (refine Mix.mix_last rfl rfl (by kernel_rfl) (fun w1 hE K hK => ?_); (conv => arg 2; whnf); clear hap hapf; have hc1 := hE.cells (w.heap.size + 2) (by first | omega | (simp; done) | (simp; omega)); have hf1 := hE.marks (w.heap.size + 2) (by first | omega | (simp; done) | (simp; omega)); have hs1 := hE.sizes (w.heap.size + 2) (by first | omega | (simp; done) | (simp; omega)); have hg1 := hE.rules.1; have hh1 := hE.rules.2; have hl1_0 : w.heap.size < w1.heap.size := (by omega); have hl1_1 : w.heap.size + 1 < w1.heap.size := (by omega); go_big_op; refine hK _ _ (fun w2 hE2 => ?_); clear hK K; have hc2 := hE2.cells (w.heap.size + 2) (by first | omega | (simp; done) | (simp; omega)); have hf2 := hE2.marks (w.heap.size + 2) (by first | omega | (simp; done) | (simp; omega)); have hs2 := hE2.sizes (w.heap.size + 2) (by first | omega | (simp; done) | (simp; omega)); have hg2 := hE2.rules.1; have hh2 := hE2.rules.2; have hl2_0 : w.heap.size < w2.heap.size := (by omega); have hl2_1 : w.heap.size + 1 < w2.heap.size := (by omega); dsimp only [Exit.then])
  go_wp2
  refine bodyPost_ret (v := _) (by simp [results, Try.results130, go_sem, *]; rfl) rfl ?_
  exact ⟨rfl, by (repeat' (first | exact Ext.refl _ | assumption | refine Ext.alloc' ?_ _ | (refine Ext.set' ?_ (by first | omega | (simp; done) | (simp; omega)) _) | refine Ext.drew' ?_ | refine Ext.drewN' ?_ _ | refine Ext.trans ?_ (by assumption)))⟩
/-- A number in bounds, as secrets have it. -/
def clipS (x lo hi : Int) : Int := sel (decide (x < lo)) lo (sel (decide (hi < x)) hi x)
theorem in64_clipS {x lo hi : Int} (hx : In64 x) (hl : In64 lo) (hh : In64 hi) : In64 (clipS x lo hi) := in64_sel hl (in64_sel hh hx)
theorem Clip_any (x lo hi : Int) (hx : In64 x) (hl : In64 lo) (hh : In64 hi) (w : World) : Calls Try.prog 182 #[.agg #[.int .i64 x], .int .i64 lo, .int .i64 hi] w fun e w' => e = .returned (.agg #[.int .i64 (clipS x lo hi)]) ∧ Ext w w' := by
  go_enter Try.func182, Try.ntmps182
  go_wp2_with (go_at_call 27; refine (of_any _ _).mono ?_; intro e w1 h; have he := h.1; have hE := h.2; clear h; subst he; have hc1 := hE.cells (w.heap.size + 2) (by first | omega | (simp; done) | (simp; omega)); have hf1 := hE.marks (w.heap.size + 2) (by first | omega | (simp; done) | (simp; omega)); have hs1 := hE.sizes (w.heap.size + 2) (by first | omega | (simp; done) | (simp; omega)); have hg1 := hE.rules.1; have hh1 := hE.rules.2; have hl1_0 : w.heap.size < w1.heap.size := (by omega); have hl1_1 : w.heap.size + 1 < w1.heap.size := (by omega))
  refine Mix.wp_region_mixX (w.heap.size + 2) (.c 0 (.c 1 (.c 2 (.c 3 (.c 4 (.c 5 .done)))))) (by kernel_rfl) (by kernel_rfl) (by first | omega | (simp; done) | (simp; omega)) (fun hap hapf => ?_)
  repeat (refine Mix.mix_q rfl rfl rfl (fun K hK => ?_); (conv => arg 2; whnf); (first | (go_big_quiet_op; refine hK _ ?_) | (go_simp; refine hK _ ?_)); clear hK K)
  (refine Mix.mix_nil (fun w2 hE2 => ?_); clear hap hapf; have hc2 := hE2.cells (w.heap.size + 2) (by first | omega | (simp; done) | (simp; omega)); have hf2 := hE2.marks (w.heap.size + 2) (by first | omega | (simp; done) | (simp; omega)); have hs2 := hE2.sizes (w.heap.size + 2) (by first | omega | (simp; done) | (simp; omega)); have hg2 := hE2.rules.1; have hh2 := hE2.rules.2; have hl2_0 : w.heap.size < w2.heap.size := (by omega); have hl2_1 : w.heap.size + 1 < w2.heap.size := (by omega); dsimp only [Exit.then])
  have hz : w1.heap.size < w2.heap.size ∧ w1.heap.size + 1 < w2.heap.size := by have := hE2.size; simp at this; omega
  go_wp2
  refine Mix.wp_region_mixX (w.heap.size + 2) (.c 0 (.c 1 (.c 2 (.c 3 (.c 4 (.c 5 (.c 6 (.c 7 (.c 8 (.c 9 (.c 10 (.e 11 .done)))))))))))) (by kernel_rfl) (by kernel_rfl) (by first | omega | (simp; done) | (simp; omega)) (fun hap hapf => ?_)
  repeat (refine Mix.mix_q rfl rfl rfl (fun K hK => ?_); (conv => arg 2; whnf); (first | (go_big_quiet_op; refine hK _ ?_) | (go_simp; refine hK _ ?_)); clear hK K)
  (refine Mix.mix_c rfl rfl (fun K hK => ?_); (conv => arg 2; whnf); go_simp; apply Exists.intro; refine ⟨fun _ => ?_, hK _ ?_⟩; exact Less_any _ _ hx hl _; clear hK K)
  repeat (refine Mix.mix_q rfl rfl rfl (fun K hK => ?_); (conv => arg 2; whnf); (first | (go_big_quiet_op; refine hK _ ?_) | (go_simp; refine hK _ ?_)); clear hK K)
  (refine Mix.mix_c rfl rfl (fun K hK => ?_); (conv => arg 2; whnf); go_simp; apply Exists.intro; refine ⟨fun _ => ?_, hK _ ?_⟩; exact Less_any _ _ hh hx _; clear hK K)
  repeat (refine Mix.mix_q rfl rfl rfl (fun K hK => ?_); (conv => arg 2; whnf); (first | (go_big_quiet_op; refine hK _ ?_) | (go_simp; refine hK _ ?_)); clear hK K)
  (refine Mix.mix_c rfl rfl (fun K hK => ?_); (conv => arg 2; whnf); go_simp; apply Exists.intro; refine ⟨fun _ => ?_, hK _ ?_⟩; exact Select_any _ _ _ hh hx _; clear hK K)
  (refine Mix.mix_c rfl rfl (fun K hK => ?_); (conv => arg 2; whnf); go_simp; apply Exists.intro; refine ⟨fun _ => ?_, hK _ ?_⟩; exact Select_any _ _ _ hl (in64_sel hh hx) _; clear hK K)
  (refine Mix.mix_last rfl rfl (by kernel_rfl) (fun w1 hE K hK => ?_); (conv => arg 2; whnf); clear hap hapf; have hc1 := hE.cells (w.heap.size + 2) (by first | omega | (simp; done) | (simp; omega)); have hf1 := hE.marks (w.heap.size + 2) (by first | omega | (simp; done) | (simp; omega)); have hs1 := hE.sizes (w.heap.size + 2) (by first | omega | (simp; done) | (simp; omega)); have hg1 := hE.rules.1; have hh1 := hE.rules.2; have hl1_0 : w.heap.size < w1.heap.size := (by omega); have hl1_1 : w.heap.size + 1 < w1.heap.size := (by omega); go_big_op; refine hK _ _ (fun w2 hE2 => ?_); clear hK K; have hc2 := hE2.cells (w.heap.size + 2) (by first | omega | (simp; done) | (simp; omega)); have hf2 := hE2.marks (w.heap.size + 2) (by first | omega | (simp; done) | (simp; omega)); have hs2 := hE2.sizes (w.heap.size + 2) (by first | omega | (simp; done) | (simp; omega)); have hg2 := hE2.rules.1; have hh2 := hE2.rules.2; have hl2_0 : w.heap.size < w2.heap.size := (by omega); have hl2_1 : w.heap.size + 1 < w2.heap.size := (by omega); dsimp only [Exit.then])
  go_wp2
  refine bodyPost_ret (v := _) (by simp [results, Try.results182, go_sem, *]; rfl) rfl ?_
  exact ⟨rfl, by (repeat' (first | exact Ext.refl _ | assumption | refine Ext.alloc' ?_ _ | (refine Ext.set' ?_ (by first | omega | (simp; done) | (simp; omega)) _) | refine Ext.drew' ?_ | refine Ext.drewN' ?_ _ | refine Ext.trans ?_ (by assumption)))⟩
theorem addNil_any (k n : Int) (w : World) : Calls Try.prog 155 #[.pointer none, .int .i64 k, .int .i64 n] w fun e w' => e = .returned (.tuple #[]) ∧ w = w' := by
  go_enter Try.func155, Try.ntmps155
  go_wp2
  refine bodyPost_ret (results_none rfl _ _ _) rfl ?_
  exact ⟨rfl, rfl⟩
theorem openNil_any (w : World) : Calls Try.prog 98 #[.pointer none] w fun e w' => e = .returned (.tuple #[]) ∧ w = w' := by
  go_enter Try.func98, Try.ntmps98
  go_wp2_with (go_at_call 155; refine (addNil_any _ _ _).mono ?_; intro e w2 h; have he := h.1; have hw := h.2; clear h; subst he; subst hw)
  go_end0
  exact ⟨rfl, rfl⟩
theorem OpenNil_any (x : Int) (w : World) : Calls Try.prog 28 #[.agg #[.int .i64 x], .pointer none] w fun e w' => e = .returned (.int .i64 x) ∧ Ext w w' := by
  go_enter Try.func28, Try.ntmps28
  go_wp2_with (go_at_call 98; refine (openNil_any _).mono ?_; intro e w2 h; have he := h.1; have hw := h.2; clear h; subst he; subst hw)
  go_ret
  exact ⟨rfl, by (repeat' (first | exact Ext.refl _ | assumption | refine Ext.alloc' ?_ _ | (refine Ext.set' ?_ (by first | omega | (simp; done) | (simp; omega)) _) | refine Ext.drew' ?_ | refine Ext.drewN' ?_ _ | refine Ext.trans ?_ (by assumption)))⟩
end Go.Proofs.Ytoipadeeochbnaa
