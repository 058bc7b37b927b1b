import Derived.Test.YtoipadeeochbnaaR14c
import Derived.Test.YtoipadeeochbnaaKnown14
namespace Go.Proofs.Ytoipadeeochbnaa
open Go.RowKit Mix
set_option linter.unusedVariables false
attribute [local go_sem] Mix.calm Oper.quietUpon
theorem partsL_len (M : Int) : (partsL M).length = nP M := by
  unfold partsL nsL nP
  split <;> (try split) <;> (try split) <;> (try split) <;> rfl
theorem same_parts (M : Int) (a b : Option Addr) (ca cb : Nat) (w : World)
    (ha : ∀ i u, (partsL M)[i]? = some u → ∃ g, a = some ⟨g, 0, none⟩ ∧ w.cell? ⟨g, i, none⟩ = some (.int .i64 u))
    (hb : ∀ i u, (partsL M)[i]? = some u → ∃ g, b = some ⟨g, 0, none⟩ ∧ w.cell? ⟨g, i, none⟩ = some (.int .i64 u)) :
    Calls Try.prog 115 #[.slice a (nP M) ca, .slice b (nP M) cb] w fun e w' => e = .returned (.bool true) ∧ Ext w w' := by
  have h := same_any a b ca cb (partsL M) w (by rw [partsL_len]; have := nP_bd M; omega) ha hb
  rwa [partsL_len] at h
theorem cells_ext {a : Option Addr} {xs : List Int} {w w' : World} (h : ∀ i u, xs[i]? = some u → ∃ g, a = some ⟨g, 0, none⟩ ∧ w.cell? ⟨g, i, none⟩ = some (.int .i64 u)) (hE : Ext w w') :
    ∀ i u, xs[i]? = some u → ∃ g, a = some ⟨g, 0, none⟩ ∧ w'.cell? ⟨g, i, none⟩ = some (.int .i64 u) := fun i u hi => by
  obtain ⟨g, e, hc⟩ := h i u hi
  exact ⟨g, e, hE.cell hc⟩
theorem checkV_bd (W H M Qu I C : Int) : 0 ≤ checkV W H M Qu I C ∧ checkV W H M Qu I C ≤ 15 := by
  unfold checkV
  repeat' split
  all_goals omega
theorem Public_any (a0 a1 a2 a3 a4 a5 : Int) (g0 : 0 ≤ a0 ∧ a0 ≤ 65535) (g1 : 0 ≤ a1 ∧ a1 ≤ 65535) (g2 : 0 ≤ a2 ∧ a2 ≤ 255) (g3 : 0 ≤ a3 ∧ a3 ≤ 255) (g4 : 0 ≤ a4 ∧ a4 ≤ 255) (g5 : 0 ≤ a5 ∧ a5 ≤ 255) (w : World) :
    Calls Try.prog 49 #[.int .u16 a0, .int .u16 a1, .int .u8 a2, .int .u8 a3, .int .u8 a4, .int .u8 a5] w fun e w' =>
      e = .returned (.agg #[.int .i64 (a0 % 300), .int .i64 (a1 % 300), .int .i64 (a2 % 6), .int .i64 (a3 % 103), .int .i64 (a4 % 30), .int .i64 (a5 % 6 - 1)]) ∧ Ext w w' := by
  go_enter Try.func49, Try.ntmps49
  go_wp2
  refine bodyPost_ret (v := _) (by simp [results, Try.results49, go_sem, *]; rfl) rfl ?_
  exact ⟨rfl, by (repeat' (first | exact Ext.refl _ | assumption | refine Ext.alloc' ?_ _ | (refine Ext.set' ?_ (by first | omega | (simp; done) | (simp; omega)) _) | refine Ext.drew' ?_ | refine Ext.drewN' ?_ _ | refine Ext.trans ?_ (by assumption)))⟩
set_option maxHeartbeats 2000000 in
set_option maxRecDepth 100000 in
theorem tells_any (W H M Qu I C : Int) (i k f : Int) (w : World) : Calls Try.prog 50 #[.agg #[.int .i64 W, .int .i64 H, .int .i64 M, .int .i64 Qu, .int .i64 I, .int .i64 C], .int .i64 i, .int .i64 k, .int .i64 f] w fun e w' => e = .returned (.bool true) ∧ Ext w w' := by
  have hck := checkV_bd W H M Qu I C
  go_enter Try.func50, Try.ntmps50
  go_wp2
  refine Mix.wp_region_mixX (w.heap.size + 1) (.c 0 (.c 1 (.c 2 (.c 3 (.c 4 (.c 5 (.c 6 (.c 7 (.c 8 (.c 9 (.c 10 (.c 11 (.c 12 (.c 13 (.c 14 (.c 15 (.c 16 (.c 17 (.c 18 (.c 19 (.c 20 .done))))))))))))))))))))) (by kernel_rfl) (by kernel_rfl) (by first | omega | (simp; done) | (simp; omega)) (fun hap hapf => ?_)
  repeat (refine Mix.mix_q rfl rfl rfl (fun K hK => ?_); (conv => arg 2; whnf); (first | (go_big_quiet_op; refine hK _ ?_) | (go_simp; refine hK _ ?_)); clear hK K)
  (refine Mix.mix_c rfl rfl (fun K hK => ?_); (conv => arg 2; whnf); go_simp; apply Exists.intro; refine ⟨fun _ => ?_, hK _ ?_⟩; exact Check_any W H M Qu I C _; clear hK K)
  repeat (refine Mix.mix_q rfl rfl rfl (fun K hK => ?_); (conv => arg 2; whnf); (first | (go_big_quiet_op; refine hK _ ?_) | (go_simp; refine hK _ ?_)); clear hK K)
  (refine Mix.mix_c rfl rfl (fun K hK => ?_); (conv => arg 2; whnf); go_simp; apply Exists.intro; refine ⟨fun _ => ?_, hK _ ?_⟩; exact RCheck_any W H M Qu I C _; clear hK K)
  repeat (refine Mix.mix_q rfl rfl rfl (fun K hK => ?_); (conv => arg 2; whnf); (first | (go_big_quiet_op; refine hK _ ?_) | (go_simp; refine hK _ ?_)); clear hK K)
  (refine Mix.mix_c rfl rfl (fun K hK => ?_); (conv => arg 2; whnf); go_simp; apply Exists.intro; refine ⟨fun _ => ?_, hK _ ?_⟩; exact Slot_any W H M Qu I C _; clear hK K)
  repeat (refine Mix.mix_q rfl rfl rfl (fun K hK => ?_); (conv => arg 2; whnf); (first | (go_big_quiet_op; refine hK _ ?_) | (go_simp; refine hK _ ?_)); clear hK K)
  (refine Mix.mix_c rfl rfl (fun K hK => ?_); (conv => arg 2; whnf); go_simp; apply Exists.intro; refine ⟨fun _ => ?_, hK _ ?_⟩; exact RSlot_any W H M Qu I C _; clear hK K)
  repeat (refine Mix.mix_q rfl rfl rfl (fun K hK => ?_); (conv => arg 2; whnf); (first | (go_big_quiet_op; refine hK _ ?_) | (go_simp; refine hK _ ?_)); clear hK K)
  (refine Mix.mix_c rfl rfl (fun K hK => ?_); (conv => arg 2; whnf); go_simp; apply Exists.intro; refine ⟨fun _ => ?_, hK _ ?_⟩; exact Room_any W H M Qu I C _; clear hK K)
  repeat (refine Mix.mix_q rfl rfl rfl (fun K hK => ?_); (conv => arg 2; whnf); (first | (go_big_quiet_op; refine hK _ ?_) | (go_simp; refine hK _ ?_)); clear hK K)
  (refine Mix.mix_c rfl rfl (fun K hK => ?_); (conv => arg 2; whnf); go_simp; apply Exists.intro; refine ⟨fun _ => ?_, hK _ ?_⟩; exact RRoom_any W H M Qu I C _; clear hK K)
  repeat (refine Mix.mix_q rfl rfl rfl (fun K hK => ?_); (conv => arg 2; whnf); (first | (go_big_quiet_op; refine hK _ ?_) | (go_simp; refine hK _ ?_)); clear hK K)
  (refine Mix.mix_nil (fun w2 hE2 => ?_); clear hap hapf; have hc2 := hE2.cells (w.heap.size + 1) (by first | omega | (simp; done) | (simp; omega)); have hf2 := hE2.marks (w.heap.size + 1) (by first | omega | (simp; done) | (simp; omega)); have hs2 := hE2.sizes (w.heap.size + 1) (by first | omega | (simp; done) | (simp; omega)); have hg2 := hE2.rules.1; have hh2 := hE2.rules.2; have hl2_0 : w.heap.size < w2.heap.size := (by omega); dsimp only [Exit.then])
  go_wp2
  refine Mix.wp_region_mixX (w.heap.size + 1) (.c 0 (.c 1 (.c 2 (.c 3 (.c 4 (.c 5 (.c 6 (.c 7 (.c 8 (.c 9 (.c 10 (.c 11 (.c 12 (.c 13 (.c 14 (.c 15 (.c 16 (.c 17 (.c 18 (.c 19 (.c 21 (.c 22 (.e 20 (.e 23 (.e 24 (.c 25 (.c 26 (.c 27 (.c 28 (.c 29 (.c 30 (.c 31 (.c 32 (.c 33 (.c 34 (.c 35 (.c 36 (.c 37 .done)))))))))))))))))))))))))))))))))))))) (by kernel_rfl) (by kernel_rfl) (by first | omega | (simp; done) | (simp; omega)) (fun hap hapf => ?_)
  repeat (refine Mix.mix_q rfl rfl rfl (fun K hK => ?_); (conv => arg 2; whnf); (first | (go_big_quiet_op; refine hK _ ?_) | (go_simp; refine hK _ ?_)); clear hK K)
  (refine Mix.mix_c rfl rfl (fun K hK => ?_); (conv => arg 2; whnf); go_simp; apply Exists.intro; refine ⟨fun _ => ?_, hK _ ?_⟩; exact Intervals_any W H M Qu I C _; clear hK K)
  repeat (refine Mix.mix_q rfl rfl rfl (fun K hK => ?_); (conv => arg 2; whnf); (first | (go_big_quiet_op; refine hK _ ?_) | (go_simp; refine hK _ ?_)); clear hK K)
  (refine Mix.mix_c rfl rfl (fun K hK => ?_); (conv => arg 2; whnf); go_simp; apply Exists.intro; refine ⟨fun _ => ?_, hK _ ?_⟩; exact RIntervals_any W H M Qu I C _; clear hK K)
  repeat (refine Mix.mix_q rfl rfl rfl (fun K hK => ?_); (conv => arg 2; whnf); (first | (go_big_quiet_op; refine hK _ ?_) | (go_simp; refine hK _ ?_)); clear hK K)
  (refine Mix.mix_c rfl rfl (fun K hK => ?_); (conv => arg 2; whnf); go_simp; apply Exists.intro; refine ⟨fun _ => ?_, hK _ ?_⟩; exact Blocks_any W H M Qu I C _ _; clear hK K)
  repeat (refine Mix.mix_q rfl rfl rfl (fun K hK => ?_); (conv => arg 2; whnf); (first | (go_big_quiet_op; refine hK _ ?_) | (go_simp; refine hK _ ?_)); clear hK K)
  (refine Mix.mix_c rfl rfl (fun K hK => ?_); (conv => arg 2; whnf); go_simp; apply Exists.intro; refine ⟨fun _ => ?_, hK _ ?_⟩; exact RBlocks_any W H M Qu I C _ _; clear hK K)
  repeat (refine Mix.mix_q rfl rfl rfl (fun K hK => ?_); (conv => arg 2; whnf); (first | (go_big_quiet_op; refine hK _ ?_) | (go_simp; refine hK _ ?_)); clear hK K)
  (refine Mix.mix_one rfl rfl (fun w1 hE K hK => ?_); (conv => arg 2; whnf); have hc1 := hE.cells (w.heap.size + 1) (by first | omega | (simp; done) | (simp; omega)); have hf1 := hE.marks (w.heap.size + 1) (by first | omega | (simp; done) | (simp; omega)); have hs1 := hE.sizes (w.heap.size + 1) (by first | omega | (simp; done) | (simp; omega)); have hg1 := hE.rules.1; have hh1 := hE.rules.2; have hl1_0 : w.heap.size < w1.heap.size := (by omega); go_big_op; refine (Parts_any M _).mono ?_)
  rintro e w6 ⟨a, cap, rfl, hqa, hE6⟩
  have hc6 := hE6.cells (w.heap.size + 1) (by first | omega | (simp; done) | (simp; omega)); have hf6 := hE6.marks (w.heap.size + 1) (by first | omega | (simp; done) | (simp; omega)); have hs6 := hE6.sizes (w.heap.size + 1) (by first | omega | (simp; done) | (simp; omega)); have hg6 := hE6.rules.1; have hh6 := hE6.rules.2; have hl6_0 : w.heap.size < w6.heap.size := (by omega)
  (refine hK _ _ (Mix.ext_ap (by (repeat' (first | exact Ext.refl _ | assumption | refine Ext.alloc' ?_ _ | (refine Ext.set' ?_ (by first | omega | (simp; done) | (simp; omega)) _) | refine Ext.drew' ?_ | refine Ext.drewN' ?_ _ | refine Ext.trans ?_ (by assumption))))) ?_; clear hK K)
  refine Mix.mix_one rfl rfl (fun w7 hE7 K hK => ?_)
  (conv => arg 2; whnf)
  have hc7 := hE7.cells (w.heap.size + 1) (by first | omega | (simp; done) | (simp; omega)); have hf7 := hE7.marks (w.heap.size + 1) (by first | omega | (simp; done) | (simp; omega)); have hs7 := hE7.sizes (w.heap.size + 1) (by first | omega | (simp; done) | (simp; omega)); have hg7 := hE7.rules.1; have hh7 := hE7.rules.2; have hl7_0 : w.heap.size < w7.heap.size := (by omega)
  go_big_op
  refine (RParts_any M _).mono ?_
  rintro e w8 ⟨b, cap2, rfl, hqb, hE8⟩
  have hc8 := hE8.cells (w.heap.size + 1) (by first | omega | (simp; done) | (simp; omega)); have hf8 := hE8.marks (w.heap.size + 1) (by first | omega | (simp; done) | (simp; omega)); have hs8 := hE8.sizes (w.heap.size + 1) (by first | omega | (simp; done) | (simp; omega)); have hg8 := hE8.rules.1; have hh8 := hE8.rules.2; have hl8_0 : w.heap.size < w8.heap.size := (by omega)
  replace hqa := cells_ext hqa (hE7.trans hE8)
  (refine hK _ _ (Mix.ext_ap (by (repeat' (first | exact Ext.refl _ | assumption | refine Ext.alloc' ?_ _ | (refine Ext.set' ?_ (by first | omega | (simp; done) | (simp; omega)) _) | refine Ext.drew' ?_ | refine Ext.drewN' ?_ _ | refine Ext.trans ?_ (by assumption))))) ?_; clear hK K)
  refine Mix.mix_one rfl rfl (fun w9 hE9 K hK => ?_)
  (conv => arg 2; whnf)
  have hc9 := hE9.cells (w.heap.size + 1) (by first | omega | (simp; done) | (simp; omega)); have hf9 := hE9.marks (w.heap.size + 1) (by first | omega | (simp; done) | (simp; omega)); have hs9 := hE9.sizes (w.heap.size + 1) (by first | omega | (simp; done) | (simp; omega)); have hg9 := hE9.rules.1; have hh9 := hE9.rules.2; have hl9_0 : w.heap.size < w9.heap.size := (by omega)
  go_big_op
  refine (same_parts M _ _ _ _ _ (cells_ext hqa hE9) (cells_ext hqb hE9)).mono ?_
  rintro e w10 ⟨rfl, hE10⟩
  have hc10 := hE10.cells (w.heap.size + 1) (by first | omega | (simp; done) | (simp; omega)); have hf10 := hE10.marks (w.heap.size + 1) (by first | omega | (simp; done) | (simp; omega)); have hs10 := hE10.sizes (w.heap.size + 1) (by first | omega | (simp; done) | (simp; omega)); have hg10 := hE10.rules.1; have hh10 := hE10.rules.2; have hl10_0 : w.heap.size < w10.heap.size := (by omega)
  (refine hK _ _ (Mix.ext_ap (by (repeat' (first | exact Ext.refl _ | assumption | refine Ext.alloc' ?_ _ | (refine Ext.set' ?_ (by first | omega | (simp; done) | (simp; omega)) _) | refine Ext.drew' ?_ | refine Ext.drewN' ?_ _ | refine Ext.trans ?_ (by assumption))))) ?_; clear hK K)
  repeat (refine Mix.mix_q rfl rfl rfl (fun K hK => ?_); (conv => arg 2; whnf); (first | (go_big_quiet_op; refine hK _ ?_) | (go_simp; refine hK _ ?_)); clear hK K)
  (refine Mix.mix_c rfl rfl (fun K hK => ?_); (conv => arg 2; whnf); go_simp; apply Exists.intro; refine ⟨fun _ => ?_, hK _ ?_⟩; exact Reserve_any W H M Qu I C _ _ _; clear hK K)
  repeat (refine Mix.mix_q rfl rfl rfl (fun K hK => ?_); (conv => arg 2; whnf); (first | (go_big_quiet_op; refine hK _ ?_) | (go_simp; refine hK _ ?_)); clear hK K)
  (refine Mix.mix_c rfl rfl (fun K hK => ?_); (conv => arg 2; whnf); go_simp; apply Exists.intro; refine ⟨fun _ => ?_, hK _ ?_⟩; exact RReserve_any W H M Qu I C _ _ _; clear hK K)
  repeat (refine Mix.mix_q rfl rfl rfl (fun K hK => ?_); (conv => arg 2; whnf); (first | (go_big_quiet_op; refine hK _ ?_) | (go_simp; refine hK _ ?_)); clear hK K)
  (refine Mix.mix_nil (fun w2 hE2 => ?_); clear hap hapf; dsimp only [Exit.then])
  go_wp2
  go_ret
  exact ⟨rfl, by (repeat' (first | exact Ext.refl _ | assumption | refine Ext.alloc' ?_ _ | (refine Ext.set' ?_ (by first | omega | (simp; done) | (simp; omega)) _) | refine Ext.drew' ?_ | refine Ext.drewN' ?_ _ | refine Ext.trans ?_ (by assumption)))⟩
set_option maxHeartbeats 1000000 in
set_option maxRecDepth 100000 in
theorem SlotTells_walk (W H M Qu I C : Int) (i k f a0 a1 a2 a3 a4 a5 : Int) (g0 : 0 ≤ a0 ∧ a0 ≤ 65535) (g1 : 0 ≤ a1 ∧ a1 ≤ 65535) (g2 : 0 ≤ a2 ∧ a2 ≤ 255) (g3 : 0 ≤ a3 ∧ a3 ≤ 255) (g4 : 0 ≤ a4 ∧ a4 ≤ 255) (g5 : 0 ≤ a5 ∧ a5 ≤ 255) (w : World) :
    Calls Try.prog 8 #[.agg #[.int .i64 W, .int .i64 H, .int .i64 M, .int .i64 Qu, .int .i64 I, .int .i64 C], .int .i64 i, .int .i64 k, .int .i64 f, .int .u16 a0, .int .u16 a1, .int .u8 a2, .int .u8 a3, .int .u8 a4, .int .u8 a5] w fun e w' => e = .returned (.bool true) ∧ Ext w w' := by
  go_enter Try.func8, Try.ntmps8
  go_wp2_with fail
  refine (Public_any _ _ _ _ _ _ g0 g1 g2 g3 g4 g5 _).mono ?_
  rintro e w1 ⟨rfl, hE1⟩
  have hc1 := hE1.cells (w.heap.size + 1) (by first | omega | (simp; done) | (simp; omega)); have hf1 := hE1.marks (w.heap.size + 1) (by first | omega | (simp; done) | (simp; omega)); have hs1 := hE1.sizes (w.heap.size + 1) (by first | omega | (simp; done) | (simp; omega)); have hg1 := hE1.rules.1; have hh1 := hE1.rules.2; have hl1_0 : w.heap.size < w1.heap.size := (by omega)
  go_wp2_with (first | (go_at_call 41; refine (known14_any _).mono ?_; intro e w2 h; have he := h.1; have hE := h.2; clear h; subst he; have hz := hE.size; (try simp at hz); have hcc := hE.cells (w1.heap.size + 1) (by first | omega | (simp; done) | (simp; omega)); have hff := hE.marks (w1.heap.size + 1) (by first | omega | (simp; done) | (simp; omega)); have hss := hE.sizes (w1.heap.size + 1) (by first | omega | (simp; done) | (simp; omega)); have hgg := hE.rules.1; have hhh := hE.rules.2) | (go_at_call 50; refine (tells_any _ _ _ _ _ _ _ _ _ _).mono ?_; intro e w2 h; have he := h.1; have hE := h.2; clear h; subst he; have hz := hE.size; (try simp at hz); have hcc := hE.cells (w1.heap.size + 1) (by first | omega | (simp; done) | (simp; omega)); have hff := hE.marks (w1.heap.size + 1) (by first | omega | (simp; done) | (simp; omega)); have hss := hE.sizes (w1.heap.size + 1) (by first | omega | (simp; done) | (simp; omega)); have hgg := hE.rules.1; have hhh := hE.rules.2))

  go_ret
  exact ⟨rfl, by (repeat' (first | exact Ext.refl _ | assumption | refine Ext.alloc' ?_ _ | (refine Ext.set' ?_ (by first | omega | (simp; done) | (simp; omega)) _) | refine Ext.drew' ?_ | refine Ext.drewN' ?_ _ | refine Ext.trans ?_ (by assumption)))⟩
end Go.Proofs.Ytoipadeeochbnaa
