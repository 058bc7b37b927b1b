import Derived.Test.YtoipadeeochbnaaSlot5
namespace Go.Proofs.Ytoipadeeochbnaa
open Go.RowKit Mix
attribute [local go_sem] Mix.calm Oper.quietUpon
theorem idx0 (b0 b1 b2 b3 b4 b5 b6 : Bool) (w : World) : (Instr.index 159 (.agg #[.bool b0, .int .u16 10, .bool b1, .int .u16 15, .bool b2, .int .u16 11, .bool b3, .int .u16 12, .bool b4, .int .u16 13, .bool b5, .int .u16 14, .bool b6, .int .u16 3]) (.int .i64 0)).run Try.prog w = .ok (.agg #[.bool b0, .int .u16 10]) w := by kernel_rfl
theorem idx1 (b0 b1 b2 b3 b4 b5 b6 : Bool) (w : World) : (Instr.index 159 (.agg #[.bool b0, .int .u16 10, .bool b1, .int .u16 15, .bool b2, .int .u16 11, .bool b3, .int .u16 12, .bool b4, .int .u16 13, .bool b5, .int .u16 14, .bool b6, .int .u16 3]) (.int .i64 1)).run Try.prog w = .ok (.agg #[.bool b1, .int .u16 15]) w := by kernel_rfl
theorem idx2 (b0 b1 b2 b3 b4 b5 b6 : Bool) (w : World) : (Instr.index 159 (.agg #[.bool b0, .int .u16 10, .bool b1, .int .u16 15, .bool b2, .int .u16 11, .bool b3, .int .u16 12, .bool b4, .int .u16 13, .bool b5, .int .u16 14, .bool b6, .int .u16 3]) (.int .i64 2)).run Try.prog w = .ok (.agg #[.bool b2, .int .u16 11]) w := by kernel_rfl
theorem idx3 (b0 b1 b2 b3 b4 b5 b6 : Bool) (w : World) : (Instr.index 159 (.agg #[.bool b0, .int .u16 10, .bool b1, .int .u16 15, .bool b2, .int .u16 11, .bool b3, .int .u16 12, .bool b4, .int .u16 13, .bool b5, .int .u16 14, .bool b6, .int .u16 3]) (.int .i64 3)).run Try.prog w = .ok (.agg #[.bool b3, .int .u16 12]) w := by kernel_rfl
theorem idx4 (b0 b1 b2 b3 b4 b5 b6 : Bool) (w : World) : (Instr.index 159 (.agg #[.bool b0, .int .u16 10, .bool b1, .int .u16 15, .bool b2, .int .u16 11, .bool b3, .int .u16 12, .bool b4, .int .u16 13, .bool b5, .int .u16 14, .bool b6, .int .u16 3]) (.int .i64 4)).run Try.prog w = .ok (.agg #[.bool b4, .int .u16 13]) w := by kernel_rfl
theorem idx5 (b0 b1 b2 b3 b4 b5 b6 : Bool) (w : World) : (Instr.index 159 (.agg #[.bool b0, .int .u16 10, .bool b1, .int .u16 15, .bool b2, .int .u16 11, .bool b3, .int .u16 12, .bool b4, .int .u16 13, .bool b5, .int .u16 14, .bool b6, .int .u16 3]) (.int .i64 5)).run Try.prog w = .ok (.agg #[.bool b5, .int .u16 14]) w := by kernel_rfl
theorem idx6 (b0 b1 b2 b3 b4 b5 b6 : Bool) (w : World) : (Instr.index 159 (.agg #[.bool b0, .int .u16 10, .bool b1, .int .u16 15, .bool b2, .int .u16 11, .bool b3, .int .u16 12, .bool b4, .int .u16 13, .bool b5, .int .u16 14, .bool b6, .int .u16 3]) (.int .i64 6)).run Try.prog w = .ok (.agg #[.bool b6, .int .u16 3]) w := by kernel_rfl
attribute [local go_sem] idx0 idx1 idx2 idx3 idx4 idx5 idx6
theorem okS_btw (n : Int) : okS n = btw n 1 65535 := rfl
set_option maxHeartbeats 2000000 in
set_option maxRecDepth 100000 in
theorem Check_w (W H M Qu I C : Int) (hW : btw W 1 65535 = false) (w : World) : Calls Try.prog 47 #[.agg #[.int .i64 W, .int .i64 H, .int .i64 M, .int .i64 Qu, .int .i64 I, .int .i64 C]] w fun e w' => e = .returned (.int .u16 (10)) ∧ Ext w w' := by
  have hsb := slotV_bd W H M I C
  go_enter Try.func47, Try.ntmps47
  go_wp2
  refine Mix.wp_region_mixX (w.heap.size + 1) (.c 0 (.c 1 (.c 2 (.c 3 (.c 4 (.c 5 (.c 6 (.c 7 (.c 8 (.c 9 (.c 10 (.c 11 (.c 12 (.c 13 (.c 14 (.c 15 (.c 16 (.c 17 (.c 18 (.c 19 (.c 20 (.c 21 (.c 22 (.c 23 (.c 24 (.c 25 (.c 26 (.c 27 (.c 28 (.c 29 (.c 30 (.c 31 (.c 32 (.c 33 (.c 34 (.c 35 (.c 36 (.c 37 .done)))))))))))))))))))))))))))))))))))))) (by kernel_rfl) (by kernel_rfl) (by first | omega | (simp; done) | (simp; omega)) (fun hap hapf => ?_)
  repeat (refine Mix.mix_q rfl rfl rfl (fun K hK => ?_); (conv => arg 2; whnf); (first | (go_big_quiet_op; refine hK _ ?_) | (go_simp; refine hK _ ?_)); clear hK K)
  (refine Mix.mix_c rfl rfl (fun K hK => ?_); (conv => arg 2; whnf); go_simp; apply Exists.intro; refine ⟨fun _ => ?_, hK _ ?_⟩; exact Mix.se (between_any _ _ _ _); clear hK K)
  rw [hW]
  repeat (refine Mix.mix_q rfl rfl rfl (fun K hK => ?_); (conv => arg 2; whnf); (first | (go_big_quiet_op; refine hK _ ?_) | (go_simp; refine hK _ ?_)); clear hK K)
  (refine Mix.mix_pass _ rfl rfl ?_)
  (refine Mix.mix_pass _ rfl rfl ?_)
  (refine Mix.mix_pass _ rfl rfl ?_)
  repeat (refine Mix.mix_q rfl rfl rfl (fun K hK => ?_); (conv => arg 2; whnf); (first | (go_big_quiet_op; refine hK _ ?_) | (go_simp; refine hK _ ?_)); clear hK K)
  (refine Mix.mix_c rfl rfl (fun K hK => ?_); (conv => arg 2; whnf); go_simp; apply Exists.intro; refine ⟨fun _ => ?_, hK _ ?_⟩; exact Mix.se (between_any _ _ _ _); clear hK K)
  repeat (refine Mix.mix_q rfl rfl rfl (fun K hK => ?_); (conv => arg 2; whnf); (first | (go_big_quiet_op; refine hK _ ?_) | (go_simp; refine hK _ ?_)); clear hK K)
  (refine Mix.mix_c rfl rfl (fun K hK => ?_); (conv => arg 2; whnf); go_simp; apply Exists.intro; refine ⟨fun _ => ?_, hK _ ?_⟩; exact Mix.se (between_any _ _ _ _); clear hK K)
  repeat (refine Mix.mix_q rfl rfl rfl (fun K hK => ?_); (conv => arg 2; whnf); (first | (go_big_quiet_op; refine hK _ ?_) | (go_simp; refine hK _ ?_)); clear hK K)
  (refine Mix.mix_c rfl rfl (fun K hK => ?_); (conv => arg 2; whnf); go_simp; apply Exists.intro; refine ⟨fun _ => ?_, hK _ ?_⟩; exact Mix.se (between_any _ _ _ _); clear hK K)
  repeat (refine Mix.mix_q rfl rfl rfl (fun K hK => ?_); (conv => arg 2; whnf); (first | (go_big_quiet_op; refine hK _ ?_) | (go_simp; refine hK _ ?_)); clear hK K)
  (refine Mix.mix_c rfl rfl (fun K hK => ?_); (conv => arg 2; whnf); go_simp; apply Exists.intro; refine ⟨fun _ => ?_, hK _ ?_⟩; exact Mix.se (between_any _ _ _ _); clear hK K)
  repeat (refine Mix.mix_q rfl rfl rfl (fun K hK => ?_); (conv => arg 2; whnf); (first | (go_big_quiet_op; refine hK _ ?_) | (go_simp; refine hK _ ?_)); clear hK K)
  (refine Mix.mix_c rfl rfl (fun K hK => ?_); (conv => arg 2; whnf); go_simp; apply Exists.intro; refine ⟨fun _ => ?_, hK _ ?_⟩; exact Slot_any W H M Qu I C _; clear hK K)
  repeat (refine Mix.mix_q rfl rfl rfl (fun K hK => ?_); (conv => arg 2; whnf); (first | (go_big_quiet_op; refine hK _ ?_) | (go_simp; refine hK _ ?_)); clear hK K)
  (refine Mix.mix_nil (fun w2 hE2 => ?_); clear hap hapf; have hc2 := hE2.cells (w.heap.size + 1) (by first | omega | (simp; done) | (simp; omega)); have hf2 := hE2.marks (w.heap.size + 1) (by first | omega | (simp; done) | (simp; omega)); have hs2 := hE2.sizes (w.heap.size + 1) (by first | omega | (simp; done) | (simp; omega)); have hg2 := hE2.rules.1; have hh2 := hE2.rules.2; have hl2_0 : w.heap.size < w2.heap.size := (by omega); dsimp only [Exit.then])
  go_wp2
  refine wp_loop_rounds 1 ?_
  repeat any_goals (rw [rounds_succ]; go_wp2)
  go_ret
  exact ⟨rfl, by (repeat' (first | exact Ext.refl _ | assumption | refine Ext.alloc' ?_ _ | (refine Ext.set' ?_ (by first | omega | (simp; done) | (simp; omega)) _) | refine Ext.drew' ?_ | refine Ext.drewN' ?_ _ | refine Ext.trans ?_ (by assumption)))⟩

def checkB (x0 x1 x2 x3 x4 x5 x6 : Bool) : Int :=
  bif x0 then bif x1 then bif x2 then bif x3 then bif x4 then bif x5 then bif x6 then 0 else 3 else 14 else 13 else 12 else 11 else 15 else 10
set_option maxHeartbeats 4000000 in
set_option maxRecDepth 100000 in
theorem Check_b (W H M Qu I C : Int) (hW : btw W 1 65535 = true) (w : World) :
    Calls Try.prog 47 #[.agg #[.int .i64 W, .int .i64 H, .int .i64 M, .int .i64 Qu, .int .i64 I, .int .i64 C]] w fun e w' => e = .returned (.int .u16 (checkB (btw H 1 65535) (decide (wrap64 (W * H) ≤ 67108864)) (btw M 1 4) (btw Qu 1 100) (btw I 1 65535) (btw C 0 3) (decide (slotV W H M I C ≤ 1048576)))) ∧ Ext w w' := by
  have hsb := slotV_bd W H M I C
  go_enter Try.func47, Try.ntmps47
  go_wp2
  refine Mix.wp_region_mixX (w.heap.size + 1) (.c 0 (.c 1 (.c 2 (.c 3 (.c 4 (.c 5 (.c 6 (.c 7 (.c 8 (.c 9 (.c 10 (.c 11 (.c 12 (.c 13 (.c 14 (.c 15 (.c 16 (.c 17 (.c 18 (.c 19 (.c 20 (.c 21 (.c 22 (.c 23 (.c 24 (.c 25 (.c 26 (.c 27 (.c 28 (.c 29 (.c 30 (.c 31 (.c 32 (.c 33 (.c 34 (.c 35 (.c 36 (.c 37 .done)))))))))))))))))))))))))))))))))))))) (by kernel_rfl) (by kernel_rfl) (by first | omega | (simp; done) | (simp; omega)) (fun hap hapf => ?_)
  repeat (refine Mix.mix_q rfl rfl rfl (fun K hK => ?_); (conv => arg 2; whnf); (first | (go_big_quiet_op; refine hK _ ?_) | (go_simp; refine hK _ ?_)); clear hK K)
  (refine Mix.mix_c rfl rfl (fun K hK => ?_); (conv => arg 2; whnf); go_simp; apply Exists.intro; refine ⟨fun _ => ?_, hK _ ?_⟩; exact Mix.se (between_any _ _ _ _); clear hK K)
  rw [hW]
  repeat (refine Mix.mix_q rfl rfl rfl (fun K hK => ?_); (conv => arg 2; whnf); (first | (go_big_quiet_op; refine hK _ ?_) | (go_simp; refine hK _ ?_)); clear hK K)
  (refine Mix.mix_c rfl rfl (fun K hK => ?_); (conv => arg 2; whnf); go_simp; apply Exists.intro; refine ⟨fun _ => ?_, hK _ ?_⟩; exact Mix.se (between_any _ _ _ _); clear hK K)
  repeat (refine Mix.mix_q rfl rfl rfl (fun K hK => ?_); (conv => arg 2; whnf); (first | (go_big_quiet_op; refine hK _ ?_) | (go_simp; refine hK _ ?_)); clear hK K)
  (refine Mix.mix_c rfl rfl (fun K hK => ?_); (conv => arg 2; whnf); go_simp; apply Exists.intro; refine ⟨fun _ => ?_, hK _ ?_⟩; exact Mix.se (between_any _ _ _ _); clear hK K)
  repeat (refine Mix.mix_q rfl rfl rfl (fun K hK => ?_); (conv => arg 2; whnf); (first | (go_big_quiet_op; refine hK _ ?_) | (go_simp; refine hK _ ?_)); clear hK K)
  (refine Mix.mix_c rfl rfl (fun K hK => ?_); (conv => arg 2; whnf); go_simp; apply Exists.intro; refine ⟨fun _ => ?_, hK _ ?_⟩; exact Mix.se (between_any _ _ _ _); clear hK K)
  repeat (refine Mix.mix_q rfl rfl rfl (fun K hK => ?_); (conv => arg 2; whnf); (first | (go_big_quiet_op; refine hK _ ?_) | (go_simp; refine hK _ ?_)); clear hK K)
  (refine Mix.mix_c rfl rfl (fun K hK => ?_); (conv => arg 2; whnf); go_simp; apply Exists.intro; refine ⟨fun _ => ?_, hK _ ?_⟩; exact Mix.se (between_any _ _ _ _); clear hK K)
  repeat (refine Mix.mix_q rfl rfl rfl (fun K hK => ?_); (conv => arg 2; whnf); (first | (go_big_quiet_op; refine hK _ ?_) | (go_simp; refine hK _ ?_)); clear hK K)
  (refine Mix.mix_c rfl rfl (fun K hK => ?_); (conv => arg 2; whnf); go_simp; apply Exists.intro; refine ⟨fun _ => ?_, hK _ ?_⟩; exact Mix.se (between_any _ _ _ _); clear hK K)
  repeat (refine Mix.mix_q rfl rfl rfl (fun K hK => ?_); (conv => arg 2; whnf); (first | (go_big_quiet_op; refine hK _ ?_) | (go_simp; refine hK _ ?_)); clear hK K)
  (refine Mix.mix_c rfl rfl (fun K hK => ?_); (conv => arg 2; whnf); go_simp; apply Exists.intro; refine ⟨fun _ => ?_, hK _ ?_⟩; exact Slot_any W H M Qu I C _; clear hK K)
  repeat (refine Mix.mix_q rfl rfl rfl (fun K hK => ?_); (conv => arg 2; whnf); (first | (go_big_quiet_op; refine hK _ ?_) | (go_simp; refine hK _ ?_)); clear hK K)
  (refine Mix.mix_nil (fun w2 hE2 => ?_); clear hap hapf; have hc2 := hE2.cells (w.heap.size + 1) (by first | omega | (simp; done) | (simp; omega)); have hf2 := hE2.marks (w.heap.size + 1) (by first | omega | (simp; done) | (simp; omega)); have hs2 := hE2.sizes (w.heap.size + 1) (by first | omega | (simp; done) | (simp; omega)); have hg2 := hE2.rules.1; have hh2 := hE2.rules.2; have hl2_0 : w.heap.size < w2.heap.size := (by omega); dsimp only [Exit.then])
  go_wp2
  clear hsb hW
  rcases x0 : btw H 1 65535 with _ | _
  · refine wp_loop_rounds 1 ?_
    iterate 1 (rw [rounds_succ]; go_wp2)
    go_ret
    exact ⟨by simp [checkB, *], by (repeat' (first | exact Ext.refl _ | assumption | refine Ext.alloc' ?_ _ | (refine Ext.set' ?_ (by first | omega | (simp; done) | (simp; omega)) _) | refine Ext.drew' ?_ | refine Ext.drewN' ?_ _ | refine Ext.trans ?_ (by assumption)))⟩
  rcases x1 : decide (wrap64 (W * H) ≤ 67108864) with _ | _
  · refine wp_loop_rounds 2 ?_
    iterate 2 (rw [rounds_succ]; go_wp2)
    go_ret
    exact ⟨by simp [checkB, *], by (repeat' (first | exact Ext.refl _ | assumption | refine Ext.alloc' ?_ _ | (refine Ext.set' ?_ (by first | omega | (simp; done) | (simp; omega)) _) | refine Ext.drew' ?_ | refine Ext.drewN' ?_ _ | refine Ext.trans ?_ (by assumption)))⟩
  rcases x2 : btw M 1 4 with _ | _
  · refine wp_loop_rounds 3 ?_
    iterate 3 (rw [rounds_succ]; go_wp2)
    go_ret
    exact ⟨by simp [checkB, *], by (repeat' (first | exact Ext.refl _ | assumption | refine Ext.alloc' ?_ _ | (refine Ext.set' ?_ (by first | omega | (simp; done) | (simp; omega)) _) | refine Ext.drew' ?_ | refine Ext.drewN' ?_ _ | refine Ext.trans ?_ (by assumption)))⟩
  rcases x3 : btw Qu 1 100 with _ | _
  · refine wp_loop_rounds 4 ?_
    iterate 4 (rw [rounds_succ]; go_wp2)
    go_ret
    exact ⟨by simp [checkB, *], by (repeat' (first | exact Ext.refl _ | assumption | refine Ext.alloc' ?_ _ | (refine Ext.set' ?_ (by first | omega | (simp; done) | (simp; omega)) _) | refine Ext.drew' ?_ | refine Ext.drewN' ?_ _ | refine Ext.trans ?_ (by assumption)))⟩
  rcases x4 : btw I 1 65535 with _ | _
  · refine wp_loop_rounds 5 ?_
    iterate 5 (rw [rounds_succ]; go_wp2)
    go_ret
    exact ⟨by simp [checkB, *], by (repeat' (first | exact Ext.refl _ | assumption | refine Ext.alloc' ?_ _ | (refine Ext.set' ?_ (by first | omega | (simp; done) | (simp; omega)) _) | refine Ext.drew' ?_ | refine Ext.drewN' ?_ _ | refine Ext.trans ?_ (by assumption)))⟩
  rcases x5 : btw C 0 3 with _ | _
  · refine wp_loop_rounds 6 ?_
    iterate 6 (rw [rounds_succ]; go_wp2)
    go_ret
    exact ⟨by simp [checkB, *], by (repeat' (first | exact Ext.refl _ | assumption | refine Ext.alloc' ?_ _ | (refine Ext.set' ?_ (by first | omega | (simp; done) | (simp; omega)) _) | refine Ext.drew' ?_ | refine Ext.drewN' ?_ _ | refine Ext.trans ?_ (by assumption)))⟩
  rcases x6 : decide (slotV W H M I C ≤ 1048576) with _ | _
  · refine wp_loop_rounds 7 ?_
    iterate 7 (rw [rounds_succ]; go_wp2)
    go_ret
    exact ⟨by simp [checkB, *], by (repeat' (first | exact Ext.refl _ | assumption | refine Ext.alloc' ?_ _ | (refine Ext.set' ?_ (by first | omega | (simp; done) | (simp; omega)) _) | refine Ext.drew' ?_ | refine Ext.drewN' ?_ _ | refine Ext.trans ?_ (by assumption)))⟩
  refine wp_loop_rounds 8 ?_
  iterate 8 (rw [rounds_succ]; go_wp2)
  go_ret
  exact ⟨by simp [checkB, *], by (repeat' (first | exact Ext.refl _ | assumption | refine Ext.alloc' ?_ _ | (refine Ext.set' ?_ (by first | omega | (simp; done) | (simp; omega)) _) | refine Ext.drew' ?_ | refine Ext.drewN' ?_ _ | refine Ext.trans ?_ (by assumption)))⟩
end Go.Proofs.Ytoipadeeochbnaa
