import Derived.Test.YtoipadeeochbnaaProg
import Derived.Test.YtoipadeeochbnaaMix
import Derived.Test.YtoipadeeochbnaaNum
import Derived.WalkKit
import Derived.BigQuiet
import Derived.Outline
namespace Go.Proofs.Ytoipadeeochbnaa
open Go.RowKit Mix
attribute [local go_sem] Mix.calm Oper.quietUpon

/-- The slice that Sides hands back lies in a new block of its own: its cells, flat. -/
def SidesAt (w : World) (cs : List Int) (e : Ending) (w' : World) : Prop :=
  ∃ b, e = .returned (.slice (some ⟨b, 0, none⟩) (cs.length / 2) (cs.length / 2)) ∧ w'.heap[b]? = some (.cells (cs.map (Value.int .i64)).toArray 123) ∧ Ext w w'
theorem Sides1 (w : World) : Calls Try.prog 86 #[.int .i64 1] w (SidesAt w [1, 1]) := by
  go_enter Try.func86, Try.ntmps86
  go_wp2
  go_ret
  exact ⟨_, rfl, heap_new _ _ _ (by simp), by (repeat' (first | exact Ext.refl _ | assumption | refine Ext.alloc' ?_ _ | (refine Ext.set' ?_ (by first | omega | (simp; done) | (simp; omega)) _) | refine Ext.drew' ?_ | refine Ext.drewN' ?_ _ | refine Ext.trans ?_ (by assumption)))⟩
theorem Sides2 (w : World) : Calls Try.prog 86 #[.int .i64 2] w (SidesAt w [1, 1, 1, 1, 1, 1]) := by
  go_enter Try.func86, Try.ntmps86
  go_wp2
  go_ret
  exact ⟨_, rfl, heap_new _ _ _ (by simp), by (repeat' (first | exact Ext.refl _ | assumption | refine Ext.alloc' ?_ _ | (refine Ext.set' ?_ (by first | omega | (simp; done) | (simp; omega)) _) | refine Ext.drew' ?_ | refine Ext.drewN' ?_ _ | refine Ext.trans ?_ (by assumption)))⟩
theorem Sides3 (w : World) : Calls Try.prog 86 #[.int .i64 3] w (SidesAt w [2, 1, 1, 1, 1, 1]) := by
  go_enter Try.func86, Try.ntmps86
  go_wp2
  go_ret
  exact ⟨_, rfl, heap_new _ _ _ (by simp), by (repeat' (first | exact Ext.refl _ | assumption | refine Ext.alloc' ?_ _ | (refine Ext.set' ?_ (by first | omega | (simp; done) | (simp; omega)) _) | refine Ext.drew' ?_ | refine Ext.drewN' ?_ _ | refine Ext.trans ?_ (by assumption)))⟩
theorem Sides4 (w : World) : Calls Try.prog 86 #[.int .i64 4] w (SidesAt w [2, 2, 1, 1, 1, 1]) := by
  go_enter Try.func86, Try.ntmps86
  go_wp2
  go_ret
  exact ⟨_, rfl, heap_new _ _ _ (by simp), by (repeat' (first | exact Ext.refl _ | assumption | refine Ext.alloc' ?_ _ | (refine Ext.set' ?_ (by first | omega | (simp; done) | (simp; omega)) _) | refine Ext.drew' ?_ | refine Ext.drewN' ?_ _ | refine Ext.trans ?_ (by assumption)))⟩
theorem Sides0 (m : Int) (h1 : (m == 1) = false) (h2 : (m == 2) = false) (h3 : (m == 3) = false) (h4 : (m == 4) = false) (w : World) :
    Calls Try.prog 86 #[.int .i64 m] w fun e w' => e = .returned (.slice none 0 0) ∧ Ext w w' := by
  go_enter Try.func86, Try.ntmps86
  go_wp2
  go_ret
  exact ⟨rfl, by (repeat' (first | exact Ext.refl _ | assumption | refine Ext.alloc' ?_ _ | (refine Ext.set' ?_ (by first | omega | (simp; done) | (simp; omega)) _) | refine Ext.drew' ?_ | refine Ext.drewN' ?_ _ | refine Ext.trans ?_ (by assumption)))⟩

def sideX (m : Int) : Int := if m = 1 ∨ m = 2 then 8 else if m = 3 ∨ m = 4 then 16 else 0
def sideY (m : Int) : Int := if m = 1 ∨ m = 2 ∨ m = 3 then 8 else if m = 4 then 16 else 0
def TwoInts (w : World) (a b : Int) (e : Ending) (w' : World) : Prop := e = .returned (.tuple #[.int .i64 a, .int .i64 b]) ∧ Ext w w'
theorem Side1 (w : World) : Calls Try.prog 85 #[.int .i64 1] w (TwoInts w (sideX 1) (sideY 1)) := by
  go_enter Try.func85, Try.ntmps85
  go_wp2_with (go_at_call 86; refine (Sides1 _).mono ?_; rintro e w1 ⟨b, rfl, hb, hE⟩; have hcb := blk_cell hb; have hbl := blk_lt hb; have hc1 := hE.cells (w.heap.size + 0) (by first | omega | (simp; done) | (simp; omega)); have hf1 := hE.marks (w.heap.size + 0) (by first | omega | (simp; done) | (simp; omega)); have hs1 := hE.sizes (w.heap.size + 0) (by first | omega | (simp; done) | (simp; omega)); have hg1 := hE.rules.1; have hh1 := hE.rules.2; skip)
  refine wp_loop_rounds 1 ?_
  rw [rounds_succ]
  go_wp2
  refine Mix.wp_region_mixX (w.heap.size + 0) (.c 0 (.c 1 (.c 2 (.c 3 (.c 4 (.c 5 (.c 6 (.c 7 .done)))))))) (by kernel_rfl) (by kernel_rfl) (by first | omega | (simp; done) | (simp; omega)) (fun hap hapf => ?_)
  repeat (refine Mix.mix_q rfl rfl rfl (fun K hK => ?_); (conv => arg 2; whnf); go_big_quiet_op; refine hK _ ?_; clear hK K)
  (refine Mix.mix_nil (fun w2 hE2 => ?_); clear hap hapf; have hc2 := hE2.cells (w.heap.size + 0) (by first | omega | (simp; done) | (simp; omega)); have hf2 := hE2.marks (w.heap.size + 0) (by first | omega | (simp; done) | (simp; omega)); have hs2 := hE2.sizes (w.heap.size + 0) (by first | omega | (simp; done) | (simp; omega)); have hg2 := hE2.rules.1; have hh2 := hE2.rules.2; skip; dsimp only [Exit.then])
  go_wp2
  go_ret2
  exact ⟨rfl, by (repeat' (first | exact Ext.refl _ | assumption | refine Ext.alloc' ?_ _ | (refine Ext.set' ?_ (by first | omega | (simp; done) | (simp; omega)) _) | refine Ext.drew' ?_ | refine Ext.drewN' ?_ _ | refine Ext.trans ?_ (by assumption)))⟩
theorem Side2 (w : World) : Calls Try.prog 85 #[.int .i64 2] w (TwoInts w (sideX 2) (sideY 2)) := by
  go_enter Try.func85, Try.ntmps85
  go_wp2_with (go_at_call 86; refine (Sides2 _).mono ?_; rintro e w1 ⟨b, rfl, hb, hE⟩; have hcb := blk_cell hb; have hbl := blk_lt hb; have hc1 := hE.cells (w.heap.size + 0) (by first | omega | (simp; done) | (simp; omega)); have hf1 := hE.marks (w.heap.size + 0) (by first | omega | (simp; done) | (simp; omega)); have hs1 := hE.sizes (w.heap.size + 0) (by first | omega | (simp; done) | (simp; omega)); have hg1 := hE.rules.1; have hh1 := hE.rules.2; skip)
  refine wp_loop_rounds 1 ?_
  rw [rounds_succ]
  go_wp2
  refine Mix.wp_region_mixX (w.heap.size + 0) (.c 0 (.c 1 (.c 2 (.c 3 (.c 4 (.c 5 (.c 6 (.c 7 .done)))))))) (by kernel_rfl) (by kernel_rfl) (by first | omega | (simp; done) | (simp; omega)) (fun hap hapf => ?_)
  repeat (refine Mix.mix_q rfl rfl rfl (fun K hK => ?_); (conv => arg 2; whnf); go_big_quiet_op; refine hK _ ?_; clear hK K)
  (refine Mix.mix_nil (fun w2 hE2 => ?_); clear hap hapf; have hc2 := hE2.cells (w.heap.size + 0) (by first | omega | (simp; done) | (simp; omega)); have hf2 := hE2.marks (w.heap.size + 0) (by first | omega | (simp; done) | (simp; omega)); have hs2 := hE2.sizes (w.heap.size + 0) (by first | omega | (simp; done) | (simp; omega)); have hg2 := hE2.rules.1; have hh2 := hE2.rules.2; skip; dsimp only [Exit.then])
  go_wp2
  go_ret2
  exact ⟨rfl, by (repeat' (first | exact Ext.refl _ | assumption | refine Ext.alloc' ?_ _ | (refine Ext.set' ?_ (by first | omega | (simp; done) | (simp; omega)) _) | refine Ext.drew' ?_ | refine Ext.drewN' ?_ _ | refine Ext.trans ?_ (by assumption)))⟩
theorem Side3 (w : World) : Calls Try.prog 85 #[.int .i64 3] w (TwoInts w (sideX 3) (sideY 3)) := by
  go_enter Try.func85, Try.ntmps85
  go_wp2_with (go_at_call 86; refine (Sides3 _).mono ?_; rintro e w1 ⟨b, rfl, hb, hE⟩; have hcb := blk_cell hb; have hbl := blk_lt hb; have hc1 := hE.cells (w.heap.size + 0) (by first | omega | (simp; done) | (simp; omega)); have hf1 := hE.marks (w.heap.size + 0) (by first | omega | (simp; done) | (simp; omega)); have hs1 := hE.sizes (w.heap.size + 0) (by first | omega | (simp; done) | (simp; omega)); have hg1 := hE.rules.1; have hh1 := hE.rules.2; skip)
  refine wp_loop_rounds 1 ?_
  rw [rounds_succ]
  go_wp2
  refine Mix.wp_region_mixX (w.heap.size + 0) (.c 0 (.c 1 (.c 2 (.c 3 (.c 4 (.c 5 (.c 6 (.c 7 .done)))))))) (by kernel_rfl) (by kernel_rfl) (by first | omega | (simp; done) | (simp; omega)) (fun hap hapf => ?_)
  repeat (refine Mix.mix_q rfl rfl rfl (fun K hK => ?_); (conv => arg 2; whnf); go_big_quiet_op; refine hK _ ?_; clear hK K)
  (refine Mix.mix_nil (fun w2 hE2 => ?_); clear hap hapf; have hc2 := hE2.cells (w.heap.size + 0) (by first | omega | (simp; done) | (simp; omega)); have hf2 := hE2.marks (w.heap.size + 0) (by first | omega | (simp; done) | (simp; omega)); have hs2 := hE2.sizes (w.heap.size + 0) (by first | omega | (simp; done) | (simp; omega)); have hg2 := hE2.rules.1; have hh2 := hE2.rules.2; skip; dsimp only [Exit.then])
  go_wp2
  go_ret2
  exact ⟨rfl, by (repeat' (first | exact Ext.refl _ | assumption | refine Ext.alloc' ?_ _ | (refine Ext.set' ?_ (by first | omega | (simp; done) | (simp; omega)) _) | refine Ext.drew' ?_ | refine Ext.drewN' ?_ _ | refine Ext.trans ?_ (by assumption)))⟩
theorem Side4 (w : World) : Calls Try.prog 85 #[.int .i64 4] w (TwoInts w (sideX 4) (sideY 4)) := by
  go_enter Try.func85, Try.ntmps85
  go_wp2_with (go_at_call 86; refine (Sides4 _).mono ?_; rintro e w1 ⟨b, rfl, hb, hE⟩; have hcb := blk_cell hb; have hbl := blk_lt hb; have hc1 := hE.cells (w.heap.size + 0) (by first | omega | (simp; done) | (simp; omega)); have hf1 := hE.marks (w.heap.size + 0) (by first | omega | (simp; done) | (simp; omega)); have hs1 := hE.sizes (w.heap.size + 0) (by first | omega | (simp; done) | (simp; omega)); have hg1 := hE.rules.1; have hh1 := hE.rules.2; skip)
  refine wp_loop_rounds 1 ?_
  rw [rounds_succ]
  go_wp2
  refine Mix.wp_region_mixX (w.heap.size + 0) (.c 0 (.c 1 (.c 2 (.c 3 (.c 4 (.c 5 (.c 6 (.c 7 .done)))))))) (by kernel_rfl) (by kernel_rfl) (by first | omega | (simp; done) | (simp; omega)) (fun hap hapf => ?_)
  repeat (refine Mix.mix_q rfl rfl rfl (fun K hK => ?_); (conv => arg 2; whnf); go_big_quiet_op; refine hK _ ?_; clear hK K)
  (refine Mix.mix_nil (fun w2 hE2 => ?_); clear hap hapf; have hc2 := hE2.cells (w.heap.size + 0) (by first | omega | (simp; done) | (simp; omega)); have hf2 := hE2.marks (w.heap.size + 0) (by first | omega | (simp; done) | (simp; omega)); have hs2 := hE2.sizes (w.heap.size + 0) (by first | omega | (simp; done) | (simp; omega)); have hg2 := hE2.rules.1; have hh2 := hE2.rules.2; skip; dsimp only [Exit.then])
  go_wp2
  go_ret2
  exact ⟨rfl, by (repeat' (first | exact Ext.refl _ | assumption | refine Ext.alloc' ?_ _ | (refine Ext.set' ?_ (by first | omega | (simp; done) | (simp; omega)) _) | refine Ext.drew' ?_ | refine Ext.drewN' ?_ _ | refine Ext.trans ?_ (by assumption)))⟩
theorem Side0 (m : Int) (h1 : (m == 1) = false) (h2 : (m == 2) = false) (h3 : (m == 3) = false) (h4 : (m == 4) = false) (w : World) :
    Calls Try.prog 85 #[.int .i64 m] w (TwoInts w 0 0) := by
  go_enter Try.func85, Try.ntmps85
  go_wp2_with (go_at_call 86; refine (Sides0 m h1 h2 h3 h4 _).mono ?_; rintro e w1 ⟨rfl, hE⟩)
  refine wp_loop_rounds 1 ?_
  rw [rounds_succ]
  go_wp2
  go_ret2
  exact ⟨rfl, by (repeat' (first | exact Ext.refl _ | assumption | refine Ext.alloc' ?_ _ | (refine Ext.set' ?_ (by first | omega | (simp; done) | (simp; omega)) _) | refine Ext.drew' ?_ | refine Ext.drewN' ?_ _ | refine Ext.trans ?_ (by assumption)))⟩
theorem Side_any (m : Int) (w : World) : Calls Try.prog 85 #[.int .i64 m] w (TwoInts w (sideX m) (sideY m)) := by
  by_cases h1 : m = 1
  · subst h1; exact Side1 w
  by_cases h2 : m = 2
  · subst h2; exact Side2 w
  by_cases h3 : m = 3
  · subst h3; exact Side3 w
  by_cases h4 : m = 4
  · subst h4; exact Side4 w
  have e1 : sideX m = 0 := by simp [sideX, h1, h2, h3, h4]
  have e2 : sideY m = 0 := by simp [sideY, h1, h2, h3, h4]
  rw [e1, e2]
  exact Side0 m (by simpa using h1) (by simpa using h2) (by simpa using h3) (by simpa using h4) w
/-- May a side be? -/
def okS (n : Int) : Bool := decide (1 ≤ n) && decide (n ≤ 65535)
theorem side_any (n : Int) (w : World) : Calls Try.prog 141 #[.int .i64 n] w fun e w' => e = .returned (.bool (okS n)) ∧ w = w' := by
  by_cases h : 1 ≤ n
  · have e1 : okS n = decide (n ≤ 65535) := by simp [okS, h]
    rw [e1]
    go_enter Try.func141, Try.ntmps141
    go_wp2
    go_ret
    exact ⟨rfl, rfl⟩
  · have e1 : okS n = false := by simp [okS, h]
    rw [e1]
    have h' : decide (1 ≤ n) = false := by simpa using h
    go_enter Try.func141, Try.ntmps141
    go_wp2
    go_ret
    exact ⟨rfl, rfl⟩
def ceilV (n d : Int) : Int := if 0 ≤ n ∧ n ≤ 1099511627776 ∧ 1 ≤ d ∧ d ≤ 1099511627776 then (n + d - 1) / d else 0
theorem Ceil_any (n d : Int) (w : World) : Calls Try.prog 118 #[.int .i64 n, .int .i64 d] w fun e w' => e = .returned (.int .i64 (ceilV n d)) ∧ w = w' := by
  by_cases h1 : 0 ≤ n
  case neg =>
    have e1 : ceilV n d = 0 := by unfold ceilV; rw [if_neg (by omega)]
    rw [e1]
    have h' : decide (n < 0) = true := by simpa using h1
    go_enter Try.func118, Try.ntmps118
    go_wp2
    go_ret
    exact ⟨rfl, rfl⟩
  have h1' : decide (n < 0) = false := by simpa using h1
  by_cases h2 : n ≤ 1099511627776
  case neg =>
    have e1 : ceilV n d = 0 := by unfold ceilV; rw [if_neg (by omega)]
    rw [e1]
    have h' : decide (1099511627776 < n) = true := by simpa using h2
    go_enter Try.func118, Try.ntmps118
    go_wp2
    go_ret
    exact ⟨rfl, rfl⟩
  have h2' : decide (1099511627776 < n) = false := by simpa using h2
  by_cases h3 : 1 ≤ d
  case neg =>
    have e1 : ceilV n d = 0 := by unfold ceilV; rw [if_neg (by omega)]
    rw [e1]
    have h' : decide (d < 1) = true := by simp; omega
    go_enter Try.func118, Try.ntmps118
    go_wp2
    go_ret
    exact ⟨rfl, rfl⟩
  have h3' : decide (d < 1) = false := by simp; omega
  by_cases h4 : d ≤ 1099511627776
  case neg =>
    have e1 : ceilV n d = 0 := by unfold ceilV; rw [if_neg (by omega)]
    rw [e1]
    have h' : decide (1099511627776 < d) = true := by simpa using h4
    go_enter Try.func118, Try.ntmps118
    go_wp2
    go_ret
    exact ⟨rfl, rfl⟩
  have h4' : decide (1099511627776 < d) = false := by simpa using h4
  have e1 : ceilV n d = (n + d - 1) / d := by unfold ceilV; rw [if_pos ⟨h1, h2, h3, h4⟩]
  rw [e1]
  clear e1
  go_enter Try.func118, Try.ntmps118
  go_wp2
  go_ret
  exact ⟨rfl, rfl⟩
end Go.Proofs.Ytoipadeeochbnaa
