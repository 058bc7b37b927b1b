import Derived.Test.YtoipadeeochbnaaR07
import Derived.Test.YtoipadeeochbnaaSlot5
namespace Go.Proofs.Ytoipadeeochbnaa
open Go.RowKit Mix
set_option linter.unusedVariables false
attribute [local go_sem] Mix.calm Oper.quietUpon
theorem ownsRow_ext {base : Nat} {e : TypeId} {k : Nat} {v : Value} {n : Nat} {xs : List Value} {w w' : World} (h : w.ownsRow base e k v n xs) (hb : Ext w w') : w'.ownsRow base e k v n xs :=
  h.kept (row := none) ⟨hb.os, hb.tape, hb.output, hb.size, fun j hj _ => hb.block j hj⟩ (by cases hv : v.ownBlock <;> simp)
set_option maxHeartbeats 1000000 in
set_option maxRecDepth 100000 in
theorem RParts_walk (m : Int) (n : Nat) (C : Array Value) (A B : Nat → Int) (ns : List Nat) (w : World)
    (hS : ∀ w, Calls Try.prog 153 #[.int .i64 m] w fun e w' => ∃ b, e = .returned (.slice (some ⟨b, 0, none⟩) n n) ∧ w'.heap[b]? = some (.cells C 123 (0, 0)) ∧ Ext w w')
    (hn : n ≤ 3) (hC : ∀ k, k < n → C[k * 2]? = some (.int .i64 (A k)) ∧ C[k * 2 + 1]? = some (.int .i64 (B k)))
    (hAB : ∀ k, k < n → 0 ≤ A k ∧ A k ≤ 4 ∧ 0 ≤ B k ∧ B k ≤ 4 ∧ A k * B k = ((ns.getD k 0 : Nat) : Int) ∧ ns.getD k 0 ≤ 16) :
    Calls Try.prog 116 #[.int .i64 m] w fun e w' => ∃ v, e = .returned v ∧ w'.ownsRow w.heap.size 3 1 v (upto ns n).length ((upto ns n).map (Value.int .i64)) ∧ Ext w w' := by
  obtain ⟨i0, hi, hz0, hz1, hz2⟩ := info_parts Try.infoInt
  go_enter Try.func116, Try.ntmps116
  go_wp2_with (go_at_call 153; refine (hS _).mono ?_; rintro e w1 ⟨b, rfl, hb, hE⟩)
  have hcb := blk_cell hb
  have hbl := blk_lt hb
  have hw1 := hE.size
  clear hS hb
  go_loopw [4, 5] (fun v i wr => ∃ k : Nat, k ≤ n ∧ i = .int .i64 k ∧ wr.ownsRow w1.heap.size 3 1 v (upto ns k).length ((upto ns k).map (Value.int .i64)) ∧ Ext w1 wr ∧ (upto ns k).length ≤ k * 16) (fun _ i _ => n - (intOf i).toNat)
  case atStart => exact ⟨0, Nat.zero_le _, rfl, by rw [upto_zero]; exact World.ownsRow_nil _ _ _ _, Ext.refl _, by simp [upto_zero]⟩
  case round =>
    obtain ⟨k, hk, rfl, hown, hEr, hlen⟩ := hrel
    have hbr : b < wr.heap.size := Nat.lt_of_lt_of_le hbl hEr.size
    by_cases hlt : k < n
    · have hA := (hC k hlt).1
      have hB := (hC k hlt).2
      obtain ⟨a0, a1, b0, b1, hns, hN16⟩ := hAB k hlt
      have hus := upto_succ ns k
      clear hC hAB
      generalize ns.getD k 0 = N at *
      have HU := Lib.hid hus
      clear hus
      go_wp2
      obtain ⟨wo, rfl⟩ : ∃ wo : World, wo = wr := ⟨_, rfl⟩
      go_loopw [4, 6] (fun v i wq => ∃ j : Nat, j ≤ N ∧ i = .int .i64 j ∧ wq.ownsRow w1.heap.size 3 1 v (upto ns k ++ List.replicate j (k : Int)).length ((upto ns k ++ List.replicate j (k : Int)).map (Value.int .i64)) ∧ Ext w1 wq ∧ wo.heap.size ≤ wq.heap.size) (fun _ i _ => N - (intOf i).toNat)
      case atStart => exact ⟨0, Nat.zero_le _, rfl, by simpa using hown, hEr, Nat.le_refl _⟩
      case round =>
        obtain ⟨j, hj, rfl, hown2, hEq, hsz⟩ := hrel
        have hbq : b < wr.heap.size := Nat.lt_of_lt_of_le hbl hEq.size
        have hqw : w.heap.size ≤ wr.heap.size := Nat.le_trans hw1 hEq.size
        have hA' : wr.cell? ⟨b, k * 2, none⟩ = some (.int .i64 (A k)) := by rw [hEq.cells _ (Nat.le_refl _) _ _ hbl, hcb]; exact hA
        have hB' : wr.cell? ⟨b, k * 2 + 1, none⟩ = some (.int .i64 (B k)) := by rw [hEq.cells _ (Nat.le_refl _) _ _ hbl, hcb]; exact hB
        by_cases hjt : j < N
        · go_wp2
          refine Mix.wp_region_mixX (w.heap.size + 0) (.c 0 (.c 1 (.c 2 (.c 3 (.c 4 (.c 5 (.c 6 (.c 7 (.c 8 (.c 9 (.c 10 (.c 11 (.c 12 .done))))))))))))) (by kernel_rfl) (by kernel_rfl) (by first | omega | (simp; done) | (simp; omega)) (fun hap hapf => ?_)
          have hcx : ∀ x, (ap wr x).cell? ⟨b, k * 2, none⟩ = some (.int .i64 (A k)) := fun x => (ap_ext wr x).cell hA'
          have hcy : ∀ x, (ap wr x).cell? ⟨b, k * 2 + 1, none⟩ = some (.int .i64 (B k)) := fun x => (ap_ext wr x).cell hB'
          repeat (refine Mix.mix_q rfl rfl rfl (fun K hK => ?_); (conv => arg 2; whnf); (first | (go_big_quiet_op; refine hK _ ?_) | (go_simp; refine hK _ ?_)); clear hK K)
          (refine Mix.mix_nil (fun w2 hE2 => ?_); clear hap hapf; have hc2 := hE2.cells (w.heap.size + 0) (by first | omega | (simp; done) | (simp; omega)); have hf2 := hE2.marks (w.heap.size + 0) (by first | omega | (simp; done) | (simp; omega)); have hs2 := hE2.sizes (w.heap.size + 0) (by first | omega | (simp; done) | (simp; omega)); have hg2 := hE2.rules.1; have hh2 := hE2.rules.2; skip; dsimp only [Exit.then])
          clear hcx hcy
          replace hE2 := (Ext.refl _).drew'.trans hE2
          have hown3 := ownsRow_ext hown2 hE2
          have hEq3 := hEq.trans hE2
          have hsz3 := Nat.le_trans hsz hE2.size
          have hbq3 : b < w2.heap.size := Nat.lt_of_lt_of_le hbq hE2.size
          go_wp2_with (at_builtin; refine wpList_append_own _ rfl _ _ 63 rfl w1.heap.size 3 i0 (.int .i64 0) 1 8 Try.underlying63 hi hz0 hz1 hz2 rfl (by decide) _ _ _ rfl (hown3.alloc _) ⟨w2.heap.size, 0, none⟩ 1 1 [.int .i64 k] rfl rfl (cell_one_new _ _ _) (by simp [Value.oneCell']) (by simp [maxLen]; omega) (by simp; omega) (by have := hEq3.size; simp; omega) ?_; intro v' w3 hown' hgrow _)
          go_roundw
          case rel =>
            refine ⟨j + 1, by omega, by go_num, ?_, ?_, ?_⟩
            · have e : upto ns k ++ List.replicate (j + 1) (k : Int) = (upto ns k ++ List.replicate j (k : Int)) ++ [(k : Int)] := by rw [List.replicate_succ']; simp
              rw [e, List.map_append, List.length_append]
              exact hown'
            · exact (Below.grown (hEq3.alloc' _) hgrow (Nat.le_trans hEq3.size (by simp)) (fun g hg => (hown3.lt g hg).1))
            · exact Nat.le_trans hsz3 (Nat.le_trans (by simp) hgrow.size)
          case measure => simp [intOf]; omega
        · go_wp2
          refine Mix.wp_region_mixX (w.heap.size + 0) (.c 0 (.c 1 (.c 2 (.c 3 (.c 4 (.c 5 (.c 6 (.c 7 (.c 8 (.c 9 (.c 10 (.c 11 (.c 12 .done))))))))))))) (by kernel_rfl) (by kernel_rfl) (by first | omega | (simp; done) | (simp; omega)) (fun hap hapf => ?_)
          have hcx : ∀ x, (ap wr x).cell? ⟨b, k * 2, none⟩ = some (.int .i64 (A k)) := fun x => (ap_ext wr x).cell hA'
          have hcy : ∀ x, (ap wr x).cell? ⟨b, k * 2 + 1, none⟩ = some (.int .i64 (B k)) := fun x => (ap_ext wr x).cell hB'
          repeat (refine Mix.mix_q rfl rfl rfl (fun K hK => ?_); (conv => arg 2; whnf); (first | (go_big_quiet_op; refine hK _ ?_) | (go_simp; refine hK _ ?_)); clear hK K)
          (refine Mix.mix_nil (fun w2 hE2 => ?_); clear hap hapf; have hc2 := hE2.cells (w.heap.size + 0) (by first | omega | (simp; done) | (simp; omega)); have hf2 := hE2.marks (w.heap.size + 0) (by first | omega | (simp; done) | (simp; omega)); have hs2 := hE2.sizes (w.heap.size + 0) (by first | omega | (simp; done) | (simp; omega)); have hg2 := hE2.rules.1; have hh2 := hE2.rules.2; skip; dsimp only [Exit.then])
          clear hcx hcy
          replace hE2 := (Ext.refl _).drew'.trans hE2
          have hown3 := ownsRow_ext hown2 hE2
          have hEq3 := hEq.trans hE2
          have hsz3 := Nat.le_trans hsz hE2.size
          have hbq3 : b < w2.heap.size := Nat.lt_of_lt_of_le hbq hE2.size
          go_wp2
          have hjN : j = N := by omega
          subst hjN
          go_roundw
          case rel =>
            refine ⟨k + 1, by omega, by go_num, ?_, hEq3, ?_⟩
            · rw [HU.out]; exact hown3
            · rw [HU.out]; simp; omega
          case measure => simp [intOf]; omega
    · go_wp2
      go_ret
      have : k = n := by omega
      subst this
      exact ⟨_, rfl, ownsRow_mono hown hw1, hE.trans hEr⟩
theorem RParts1 (w : World) : Calls Try.prog 116 #[.int .i64 1] w (PartsPost 1 w) := by
  refine (RParts_walk 1 1 #[.int .i64 1, .int .i64 1] (fun _ => 1) (fun _ => 1) (nsL 1) w (fun w => (RSides1 w)) (by decide) ?_ ?_).mono ?_
  · intro k hk
    match k, hk with
    | 0, _ => exact ⟨rfl, rfl⟩
  · intro k hk
    match k, hk with
    | 0, _ => decide
  · rintro e w' ⟨v, rfl, hown, hE⟩
    obtain ⟨a, cap, rfl, hc⟩ := parts_form hown
    exact ⟨a, cap, rfl, hc, hE⟩
theorem RParts2 (w : World) : Calls Try.prog 116 #[.int .i64 2] w (PartsPost 2 w) := by
  refine (RParts_walk 2 3 #[.int .i64 1, .int .i64 1, .int .i64 1, .int .i64 1, .int .i64 1, .int .i64 1] (fun _ => 1) (fun _ => 1) (nsL 2) w (fun w => (RSides2 w)) (by decide) ?_ ?_).mono ?_
  · intro k hk
    match k, hk with
    | 0, _ => exact ⟨rfl, rfl⟩
    | 1, _ => exact ⟨rfl, rfl⟩
    | 2, _ => exact ⟨rfl, rfl⟩
  · intro k hk
    match k, hk with
    | 0, _ => decide
    | 1, _ => decide
    | 2, _ => decide
  · rintro e w' ⟨v, rfl, hown, hE⟩
    obtain ⟨a, cap, rfl, hc⟩ := parts_form hown
    exact ⟨a, cap, rfl, hc, hE⟩
theorem RParts3 (w : World) : Calls Try.prog 116 #[.int .i64 3] w (PartsPost 3 w) := by
  refine (RParts_walk 3 3 #[.int .i64 2, .int .i64 1, .int .i64 1, .int .i64 1, .int .i64 1, .int .i64 1] (fun k => if k = 0 then 2 else 1) (fun _ => 1) (nsL 3) w (fun w => (RSides3 w)) (by decide) ?_ ?_).mono ?_
  · intro k hk
    match k, hk with
    | 0, _ => exact ⟨rfl, rfl⟩
    | 1, _ => exact ⟨rfl, rfl⟩
    | 2, _ => exact ⟨rfl, rfl⟩
  · intro k hk
    match k, hk with
    | 0, _ => decide
    | 1, _ => decide
    | 2, _ => decide
  · rintro e w' ⟨v, rfl, hown, hE⟩
    obtain ⟨a, cap, rfl, hc⟩ := parts_form hown
    exact ⟨a, cap, rfl, hc, hE⟩
theorem RParts4 (w : World) : Calls Try.prog 116 #[.int .i64 4] w (PartsPost 4 w) := by
  refine (RParts_walk 4 3 #[.int .i64 2, .int .i64 2, .int .i64 1, .int .i64 1, .int .i64 1, .int .i64 1] (fun k => if k = 0 then 2 else 1) (fun k => if k = 0 then 2 else 1) (nsL 4) w (fun w => (RSides4 w)) (by decide) ?_ ?_).mono ?_
  · intro k hk
    match k, hk with
    | 0, _ => exact ⟨rfl, rfl⟩
    | 1, _ => exact ⟨rfl, rfl⟩
    | 2, _ => exact ⟨rfl, rfl⟩
  · intro k hk
    match k, hk with
    | 0, _ => decide
    | 1, _ => decide
    | 2, _ => decide
  · rintro e w' ⟨v, rfl, hown, hE⟩
    obtain ⟨a, cap, rfl, hc⟩ := parts_form hown
    exact ⟨a, cap, rfl, hc, hE⟩
theorem RParts0 (m : Int) (h1 : (m == 1) = false) (h2 : (m == 2) = false) (h3 : (m == 3) = false) (h4 : (m == 4) = false) (w : World) :
    Calls Try.prog 116 #[.int .i64 m] w fun e w' => e = .returned (.slice none 0 0) ∧ Ext w w' := by
  go_enter Try.func116, Try.ntmps116
  go_wp2_with (go_at_call 153; refine (RSides0 m h1 h2 h3 h4 _).mono ?_; rintro e w1 ⟨rfl, hE⟩)
  refine wp_loop_rounds 1 ?_
  rw [rounds_succ]
  go_wp2
  go_ret
  exact ⟨rfl, by (repeat' (first | exact Ext.refl _ | assumption | refine Ext.alloc' ?_ _ | (refine Ext.set' ?_ (by first | omega | (simp; done) | (simp; omega)) _) | refine Ext.drew' ?_ | refine Ext.drewN' ?_ _ | refine Ext.trans ?_ (by assumption)))⟩
theorem RParts_any (m : Int) (w : World) : Calls Try.prog 116 #[.int .i64 m] w (PartsPost m w) := by
  by_cases h1 : m = 1
  · subst h1; exact RParts1 w
  by_cases h2 : m = 2
  · subst h2; exact RParts2 w
  by_cases h3 : m = 3
  · subst h3; exact RParts3 w
  by_cases h4 : m = 4
  · subst h4; exact RParts4 w
  refine (RParts0 m (by simpa using h1) (by simpa using h2) (by simpa using h3) (by simpa using h4) w).mono ?_
  rintro e w' ⟨rfl, hE⟩
  exact ⟨none, 0, by simp [nP, h1, h2, h3, h4], fun i u hi => by simp [partsL, nsL, h1, h2, h3, h4, upto] at hi, hE⟩
end Go.Proofs.Ytoipadeeochbnaa
