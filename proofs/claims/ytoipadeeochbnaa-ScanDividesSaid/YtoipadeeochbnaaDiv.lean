import Derived.Test.YtoipadeeochbnaaKnown05
namespace Go.Proofs.Ytoipadeeochbnaa
open Go.RowKit Mix
set_option linter.unusedVariables false
attribute [local go_sem] Mix.calm Oper.quietUpon
/-- A quotient by way of a product. -/
theorem div_mul (x d : Int) (h0 : 0 ≤ x) (h1 : x ≤ 65535) (d0 : 1 ≤ d) (d1 : d ≤ 65535) : x * (4294967296 / d + 1) / 4294967296 = x / d := by
  have hd : (0 : Int) < d := by omega
  have a1 : x / d * d ≤ x := Int.ediv_mul_le x (by omega)
  have a2 : x < (x / d + 1) * d := Int.lt_ediv_add_one_mul_self x hd
  have q1 : 4294967296 / d * d ≤ 4294967296 := Int.ediv_mul_le _ (by omega)
  have q2 : 4294967296 < (4294967296 / d + 1) * d := Int.lt_ediv_add_one_mul_self _ hd
  have q0 : 0 ≤ 4294967296 / d := Int.ediv_nonneg (by omega) (by omega)
  have a0 : 0 ≤ x / d := Int.ediv_nonneg h0 (by omega)
  generalize 4294967296 / d = Q at *
  generalize x / d = a at *
  have xd : x * d ≤ 65535 * 65535 := Int.mul_le_mul h1 d1 (by omega) (by omega)
  have l1 : a * 4294967296 ≤ x * (Q + 1) := by
    have e1 : a * 4294967296 ≤ a * ((Q + 1) * d) := Int.mul_le_mul_of_nonneg_left (by omega) a0
    have e2 : a * ((Q + 1) * d) = (a * d) * (Q + 1) := by rw [Int.mul_comm (Q + 1) d, Int.mul_assoc]
    have e3 : (a * d) * (Q + 1) ≤ x * (Q + 1) := Int.mul_le_mul_of_nonneg_right a1 (by omega)
    omega
  have l2 : x * (Q + 1) < (a + 1) * 4294967296 := by
    refine Int.lt_of_mul_lt_mul_right (a := d) ?_ (by omega)
    have e1 : x * (Q + 1) * d = x * (Q * d) + x * d := by rw [Int.mul_assoc, Int.add_mul, Int.mul_add, Int.one_mul]
    have e2 : x * (Q * d) ≤ x * 4294967296 := Int.mul_le_mul_of_nonneg_left q1 h0
    have e3 : (a + 1) * 4294967296 * d = (a + 1) * d * 4294967296 := by rw [Int.mul_assoc, Int.mul_comm 4294967296 d, Int.mul_assoc]
    have e4 : (x + 1) * 4294967296 ≤ (a + 1) * d * 4294967296 := Int.mul_le_mul_of_nonneg_right (by omega) (by omega)
    omega
  refine Int.le_antisymm ?_ ?_
  · exact Int.lt_add_one_iff.1 (Int.ediv_lt_of_lt_mul (by omega) l2)
  · exact Int.le_ediv_of_mul_le (by omega) l1
/-- To the nearest, by half a step. -/
theorem round_half (n q : Int) (h0 : 0 ≤ n) (q0 : 1 ≤ q) : (n + q / 2) / q = if 2 * (n - n / q * q) ≥ q then n / q + 1 else n / q := by
  have e : n = n / q * q + n % q := (Int.ediv_mul_add_emod n q).symm
  have r0 := Int.emod_nonneg n (b := q) (by omega)
  have r1 := Int.emod_lt_of_pos n (b := q) (by omega)
  have e1 : n - n / q * q = n % q := by omega
  rw [e1]
  have e2 : n + q / 2 = (n % q + q / 2) + n / q * q := by omega
  rw [e2, Int.add_mul_ediv_right _ _ (by omega)]
  generalize n % q = r at *
  generalize n / q = k at *
  by_cases h : 2 * r ≥ q
  · rw [if_pos h]
    have : r + q / 2 = (r + q / 2 - q) + 1 * q := by omega
    rw [this, Int.add_mul_ediv_right _ _ (by omega), Int.ediv_eq_zero_of_lt (by omega) (by omega)]
    omega
  · rw [if_neg h, Int.ediv_eq_zero_of_lt (by omega) (by omega)]
    omega
set_option maxRecDepth 100000 in
theorem Div_any (x d : Int) (h0 : 0 ≤ x) (h1 : x ≤ 65535) (d0 : 1 ≤ d) (d1 : d ≤ 65535) (w : World) :
    Calls Try.prog 74 #[.agg #[.int .i64 x], .int .i64 d] w fun e w' => e = .returned (.agg #[.int .i64 (x / d)]) ∧ Ext w w' := by
  have hdm := div_mul x d h0 h1 d0 d1
  have hq : 4294967296 / d ≤ 4294967296 := Int.ediv_le_self _ (by omega)
  have hq0 : 0 ≤ 4294967296 / d := Int.ediv_nonneg (by omega) (by omega)
  have hdm' := Lib.hid hdm
  clear hdm
  go_enter Try.func74, Try.ntmps74
  go_wp2
  refine Mix.wp_region_mixX (w.heap.size + 2) (.c 0 (.c 1 (.c 2 (.c 3 (.c 4 (.c 5 (.c 6 (.e 7 .done)))))))) (by kernel_rfl) (by kernel_rfl) (by first | omega | (simp; done) | (simp; omega)) (fun hap hapf => ?_)
  repeat (refine Mix.mix_q rfl rfl rfl (fun K hK => ?_); (conv => arg 2; whnf); (first | (go_big_quiet_op; refine hK _ ?_) | (go_simp; refine hK _ ?_)); clear hK K)
  (refine Mix.mix_c rfl rfl (fun K hK => ?_); (conv => arg 2; whnf); go_simp; apply Exists.intro; refine ⟨fun _ => ?_, hK _ ?_⟩; exact of_any _ _; clear hK K)
  (refine Mix.mix_c rfl rfl (fun K hK => ?_); (conv => arg 2; whnf); go_simp; apply Exists.intro; refine ⟨fun _ => ?_, hK _ ?_⟩; exact Mul_any _ _ _; clear hK K)
  (refine Mix.mix_c rfl rfl (fun K hK => ?_); (conv => arg 2; whnf); go_simp; apply Exists.intro; refine ⟨fun _ => ?_, hK _ ?_⟩; exact Shr_any _ _ _; clear hK K)
  (refine Mix.mix_last rfl rfl (by kernel_rfl) (fun w1 hE K hK => ?_); (conv => arg 2; whnf); clear hap hapf; have hc1 := hE.cells (w.heap.size + 2) (by first | omega | (simp; done) | (simp; omega)); have hf1 := hE.marks (w.heap.size + 2) (by first | omega | (simp; done) | (simp; omega)); have hs1 := hE.sizes (w.heap.size + 2) (by first | omega | (simp; done) | (simp; omega)); have hg1 := hE.rules.1; have hh1 := hE.rules.2; have hl1_0 : w.heap.size < w1.heap.size := (by omega); have hl1_1 : w.heap.size + 1 < w1.heap.size := (by omega); go_big_op; refine hK _ _ (fun w2 hE2 => ?_); clear hK K; have hc2 := hE2.cells (w.heap.size + 2) (by first | omega | (simp; done) | (simp; omega)); have hf2 := hE2.marks (w.heap.size + 2) (by first | omega | (simp; done) | (simp; omega)); have hs2 := hE2.sizes (w.heap.size + 2) (by first | omega | (simp; done) | (simp; omega)); have hg2 := hE2.rules.1; have hh2 := hE2.rules.2; have hl2_0 : w.heap.size < w2.heap.size := (by omega); have hl2_1 : w.heap.size + 1 < w2.heap.size := (by omega); dsimp only [Exit.then])
  go_wp2
  refine bodyPost_ret (v := _) (by simp [results, Try.results74, go_sem, *]; rfl) rfl ?_
  refine ⟨?_, by (repeat' (first | exact Ext.refl _ | assumption | refine Ext.alloc' ?_ _ | (refine Ext.set' ?_ (by first | omega | (simp; done) | (simp; omega)) _) | refine Ext.drew' ?_ | refine Ext.drewN' ?_ _ | refine Ext.trans ?_ (by assumption)))⟩
  have b1 : x * (4294967296 / d + 1) ≤ 65535 * 4294967297 := Int.mul_le_mul h1 (by omega) (by omega) (by omega)
  have b0 : 0 ≤ x * (4294967296 / d + 1) := Int.mul_nonneg h0 (by omega)
  rw [← hdm'.out, wrap_in (by unfold In64; omega)]
  rfl
set_option maxRecDepth 100000 in
theorem Round_any (x d : Int) (h0 : -32767 ≤ x) (h1 : x ≤ 32767) (d0 : 1 ≤ d) (d1 : d ≤ 255) (w : World) :
    Calls Try.prog 76 #[.agg #[.int .i64 x], .int .i64 d] w fun e w' => e = .returned (.agg #[.int .i64 (if x < 0 then -((-x + d / 2) / d) else (x + d / 2) / d)]) ∧ Ext w w' := by
  have hx : In64 x := by unfold In64; omega
  obtain ⟨V, hV⟩ : ∃ V, V = if x < 0 then -((-x + d / 2) / d) else (x + d / 2) / d := ⟨_, rfl⟩
  rw [← hV]
  have hV' := Lib.hid hV
  clear hV
  obtain ⟨A, hA⟩ : ∃ A, A = if x < 0 then -x else x := ⟨_, rfl⟩
  have hA0 : 0 ≤ A := by rw [hA]; split <;> omega
  have hA1 : A ≤ 32767 := by rw [hA]; split <;> omega
  have eA : wrap64 (absV x) = A := by rw [hA]; unfold absV wrap64; split <;> omega
  have hA' := Lib.hid hA
  clear hA
  have hd2 : 0 ≤ d / 2 ∧ d / 2 ≤ 127 := by omega
  have eS : wrap64 (A + d / 2) = A + d / 2 := wrap_in (by unfold In64; omega)
  have eA' := Lib.hid eA
  have eS' := Lib.hid eS
  clear eA eS
  go_enter Try.func76, Try.ntmps76
  go_wp2_with fail
  refine (Abs_any x hx _).mono ?_
  rw [eA'.out]
  rintro e w2 ⟨rfl, hE2⟩
  have kX : Boxed w2 w.heap.size 25 (.int .i64 x) := hE2.blk ((Boxed.new w _ _).alloc _)
  have kR : Boxed w2 (w.heap.size + 1) 25 (.int .i64 0) := by
    have := Boxed.new (w.alloc (.cells #[.int .i64 x] 25)) 25 (.int .i64 0)
    rw [World.size_alloc] at this
    exact hE2.blk this
  have hE02 : Ext w w2 := (((Ext.refl w).alloc' _).alloc' _).trans hE2
  have zR := kR.lt
  go_wp2_with fail
  refine (of_any (d / 2) _).mono ?_
  rintro e w3 ⟨rfl, hE3⟩
  go_wp2_with fail
  refine (Add_any A (d / 2) _).mono ?_
  rw [eS'.out]
  rintro e w4 ⟨rfl, hE4⟩
  go_wp2_with fail
  refine (Div_any (A + d / 2) d (by omega) (by omega) d0 (by omega) _).mono ?_
  rintro e w5 ⟨rfl, hE5⟩
  obtain ⟨k, hk⟩ : ∃ k, k = (A + d / 2) / d := ⟨_, rfl⟩
  have hk0 : 0 ≤ k := by rw [hk]; exact Int.ediv_nonneg (by omega) (by omega)
  have hk1 : k ≤ 32894 := by rw [hk]; exact Int.le_trans (Int.ediv_le_self _ (by omega)) (by omega)
  rw [← hk]
  have hk' := Lib.hid hk
  clear hk
  have hE25 := (hE3.trans hE4).trans hE5
  have hE05 := hE02.trans hE25
  have kX5 := hE25.blk kX
  have kR5 := hE25.blk kR
  have kK : Boxed (w5.alloc (.cells #[.int .i64 k] 25)) w5.heap.size 25 (.int .i64 k) := Boxed.new w5 _ _
  have hE6 := (Ext.refl w5).alloc' (.cells #[.int .i64 k] 25)
  have kX6 := hE6.blk kX5
  have kR6 := hE6.blk kR5
  have hE06 := hE05.trans hE6
  clear hE2 hE3 hE4 hE5 hE25 hE02 hE05
  go_wp2
  generalize w5.alloc (.cells #[.int .i64 k] 25) = w6 at *
  have q1 := Boxed.cell kX6
  have q2 := kK.cell
  refine Mix.wp_region_mixX 0 (.c 0 (.c 1 (.c 2 (.c 3 (.c 4 (.c 5 (.c 6 (.e 7 .done)))))))) (by kernel_rfl) (by kernel_rfl) (Nat.zero_le _) (fun hap hapf => ?_)
  have d1 : ∀ z, (ap w6 z).cell? ⟨w.heap.size, 0, none⟩ = some (.int .i64 x) := fun z => (ap_ext w6 z).cell q1
  have d2 : ∀ z, (ap w6 z).cell? ⟨w5.heap.size, 0, none⟩ = some (.int .i64 k) := fun z => (ap_ext w6 z).cell q2
  repeat (refine Mix.mix_q rfl rfl rfl (fun K hK => ?_); (conv => arg 2; whnf); (first | (go_big_quiet_op; refine hK _ ?_) | (go_simp; refine hK _ ?_)); clear hK K)
  (refine Mix.mix_c rfl rfl (fun K hK => ?_); (conv => arg 2; whnf); go_simp; apply Exists.intro; refine ⟨fun _ => ?_, hK _ ?_⟩; exact of_any _ _; clear hK K)
  (refine Mix.mix_c rfl rfl (fun K hK => ?_); (conv => arg 2; whnf); go_simp; apply Exists.intro; refine ⟨fun _ => ?_, hK _ ?_⟩; exact Less_any _ _ hx (by simp [In64]) _; clear hK K)
  repeat (refine Mix.mix_q rfl rfl rfl (fun K hK => ?_); (conv => arg 2; whnf); (first | (go_big_quiet_op; refine hK _ ?_) | (go_simp; refine hK _ ?_)); clear hK K)
  (refine Mix.mix_c rfl rfl (fun K hK => ?_); (conv => arg 2; whnf); go_simp; apply Exists.intro; refine ⟨fun _ => ?_, hK _ ?_⟩; exact Neg_any _ _; clear hK K)
  repeat (refine Mix.mix_q rfl rfl rfl (fun K hK => ?_); (conv => arg 2; whnf); (first | (go_big_quiet_op; refine hK _ ?_) | (go_simp; refine hK _ ?_)); clear hK K)
  (refine Mix.mix_c rfl rfl (fun K hK => ?_); (conv => arg 2; whnf); go_simp; apply Exists.intro; refine ⟨fun _ => ?_, hK _ ?_⟩; exact Select_any _ _ _ (in64_wrap _) (by unfold In64; omega) _; clear hK K)
  refine Mix.mix_last rfl rfl (by kernel_rfl) (fun w7 hE7 K hK => ?_)
  (conv => arg 2; whnf)
  have E7 : Ext w6 w7 := (Ext.refl w6).drew'.trans hE7
  have k7 := E7.blk kR6
  have q7 := Boxed.cell k7
  have f7 := Boxed.frozen k7
  go_big_op
  refine hK _ _ (fun w8 hE8 => ?_)
  clear hK K
  (try dsimp only [Exit.then])
  have k8 := hE8.blk (Boxed.set (.int .i64 (sel (decide (x < 0)) (wrap64 (-k)) k)) k7)
  have hE08 : Ext w w8 := ((hE06.trans E7).set' (by simp) _).trans hE8
  have c8 := Boxed.cell k8
  clear q7 f7 d1 d2 q1 q2 hap hapf k8
  go_wp2
  refine bodyPost_ret (v := _) (by simp [results, Try.results76, go_sem, c8]; rfl) rfl ?_
  refine ⟨?_, hE08⟩
  have e : sel (decide (x < 0)) (wrap64 (-k)) k = if x < 0 then -((-x + d / 2) / d) else (x + d / 2) / d := by
    have h1 := hk'.out
    have h2 := hA'.out
    rw [wrap_in (by unfold In64; omega)]
    by_cases h : x < 0
    · rw [if_pos h] at h2 ⊢
      rw [show decide (x < 0) = true by simpa using h, h1, h2]
      rfl
    · rw [if_neg h] at h2 ⊢
      rw [show decide (x < 0) = false by simpa using h, h1, h2]
      rfl
  rw [e, hV'.out]
end Go.Proofs.Ytoipadeeochbnaa
