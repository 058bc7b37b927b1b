import Derived.Test.YtoipadeeochbnaaRef6
namespace Go.Proofs.Ytoipadeeochbnaa
open Go.RowKit Mix
set_option linter.unusedVariables false
attribute [local go_sem] Mix.calm Oper.quietUpon
set_option maxRecDepth 100000 in
set_option maxHeartbeats 1000000 in
theorem same05_any (b r : Nat) (vL vE : Value) (xs : List Int) (es : List (Int × Int)) (F : List Nat) (w : World) (hB0 : Bf w b (some r) xs es F) (hT : RT w vL vE xs es) (hx : xs.length ≤ 1000) (hl : es.length ≤ 316) :
    Calls Try.prog 125 #[.pointer (some ⟨b, 0, none⟩), .agg #[vL, vE]] w fun e w' => e = .returned (.bool true) ∧ Ext w w' := by
  obtain ⟨v, Fr, hB, rfl⟩ := hB0
  obtain ⟨aL, cL, rfl⟩ := own_form hT.L
  obtain ⟨aE, cE, rfl⟩ := own_formS hT.E
  have hEb := (Ext.refl w).alloc' (.cells #[.slice aL xs.length cL, .slice aE es.length cE] 82)
  have kb := World.alloc_heap_new w (.cells #[.slice aL xs.length cL, .slice aE es.length cE] 82)
  have hB1 := hB.turn (Turn.of_ext hEb) (G := []) (by simp)
  have hd0 : ((xs.length : Int) == (xs.length : Int)) = true := by simp
  go_enter Try.func125, Try.ntmps125
  go_wp2_with fail
  refine (Words_bf b (some r) xs es v Fr _ hB1 (by omega)).mono ?_
  intro e w1 hW
  obtain ⟨aw, cw, rfl, hcell, hE1⟩ := words_form hW
  have hE01 := hEb.trans hE1
  have k1 := hE1.blk kb
  have q0 : w1.cell? ⟨w.heap.size, 0, none⟩ = some (.slice aL xs.length cL) := by rw [blk_cell k1]; rfl
  have q1 : w1.cell? ⟨w.heap.size, 1, none⟩ = some (.slice aE es.length cE) := by rw [blk_cell k1]; rfl
  have hBw := hB1.turn (Turn.of_ext hE1) (G := []) (by simp)
  have hTw := hT.ext hE01
  have hcell' := Lib.hid hcell
  clear hcell hW kb hEb hB1 hE1
  go_wp2
  refine Mix.wp_region_mixX 0 (.c 0 (.c 1 (.c 2 (.c 3 (.c 4 (.c 5 (.c 6 (.c 7 (.c 8 (.c 10 (.c 11 (.e 9 (.e 12 (.c 13 (.c 14 .done))))))))))))))) (by kernel_rfl) (by kernel_rfl) (Nat.zero_le _) (fun hap hapf => ?_)
  have d0 : ∀ z, (ap w1 z).cell? ⟨w.heap.size, 0, none⟩ = some (.slice aL xs.length cL) := fun z => (ap_ext w1 z).cell q0
  have d1 : ∀ z, (ap w1 z).cell? ⟨w.heap.size, 1, none⟩ = some (.slice aE es.length cE) := fun z => (ap_ext w1 z).cell q1
  have hBz : ∀ z, BufAt (ap w1 z) b (some r) xs es v Fr := fun z => hBw.turn (Turn.of_ext (ap_ext w1 z)) (G := []) (by simp)
  repeat (refine Mix.mix_q rfl rfl rfl (fun K hK => ?_); (conv => arg 2; whnf); (first | (go_big_quiet_op; refine hK _ ?_) | (go_simp; refine hK _ ?_)); clear hK K)
  have hTr : ∀ z, Calls Try.prog 64 #[.pointer (some ⟨b, 0, none⟩)] (ap w1 z) fun e w' => e = .returned (.pointer (some ⟨r, 0, none⟩)) ∧ ap w1 z = w' := fun z => Trace_bf b _ _ _ _ _ _ (hBz z)
  (refine Mix.mix_c rfl rfl (fun K hK => ?_); (conv => arg 2; whnf); go_simp; apply Exists.intro; refine ⟨fun _ => ?_, hK _ ?_⟩; exact Mix.se (hTr _); clear hK K)
  repeat (refine Mix.mix_q rfl rfl rfl (fun K hK => ?_); (conv => arg 2; whnf); (first | (go_big_quiet_op; refine hK _ ?_) | (go_simp; refine hK _ ?_)); clear hK K)
  refine Mix.mix_one rfl rfl (fun w5 hE5 K hK => ?_)
  (conv => arg 2; whnf)
  have E5 : Ext w1 w5 := (Ext.refl w1).drew'.trans hE5
  have hB5 := hBw.turn (Turn.of_ext E5) (G := []) (by simp)
  go_big_op
  refine (Events_rc r es _ w5 hB5.rc (by omega)).mono ?_
  rintro e w6 ⟨v6, rfl, hr6, _, hE6⟩
  have E6 := E5.trans hE6
  refine hK _ _ (Mix.ext_ap E6) ?_
  clear hK K
  refine Mix.mix_one rfl rfl (fun w7 hE7 K hK => ?_)
  (conv => arg 2; whnf)
  go_big_op
  have E7 := E6.trans hE7
  refine (evSame_any v6 (.slice aE es.length cE) es w7 (own_base (ownsRow_turn hr6 (F := []) (Turn.of_ext hE7) (by simp))) (hTw.ext E7).E (by omega)).mono ?_
  rintro e w8 ⟨rfl, hE8⟩
  have E8 := E7.trans hE8
  refine hK _ _ (Mix.ext_ap E8) ?_
  clear hK K
  repeat (refine Mix.mix_q rfl rfl rfl (fun K hK => ?_); (conv => arg 2; whnf); (first | (go_big_quiet_op; refine hK _ ?_) | (go_simp; refine hK _ ?_)); clear hK K)
  refine Mix.mix_nil (fun w9 hE9 => ?_)
  (try dsimp only [Exit.then])
  have E9 := E8.trans hE9
  clear hap hapf d0 d1 hBz hB5 hr6 E5 E6 E7 E8 hE5 hE6 hE7 hE8 hE9
  have q0' := E9.cell q0
  clear q0 q1
  go_wp2
  go_loopw [6] (fun t wr => ∃ k : Nat, k ≤ xs.length ∧ t = .int .i64 k ∧ Ext w9 wr) (fun t _ => xs.length - (intOf t).toNat)
  case atStart => exact ⟨0, Nat.zero_le _, rfl, Ext.refl _⟩
  case round =>
    obtain ⟨k, hk, rfl, hEk⟩ := hrel
    have q2 := hEk.cell q0'
    by_cases hlt : k < xs.length
    · obtain ⟨x, hx1⟩ : ∃ x, xs[k]? = some x := ⟨_, List.getElem?_eq_getElem hlt⟩
      obtain ⟨g, rfl, hcy⟩ := hcell'.out wr (E9.trans hEk) k x hx1
      have rL := (hTw.ext (E9.trans hEk)).L
      obtain ⟨gL, pL, eL⟩ := ownsRow_form rL (by omega)
      simp only [Value.slice.injEq, true_and] at eL
      obtain ⟨rfl, rfl⟩ := eL
      have hcx : wr.cell? ⟨gL, k, none⟩ = some (.int .i64 x) := by
        rw [rL.cellAt k (by omega)]
        simp [hx1]
      clear hx1 rL
      go_wp2
      refine Mix.wp_region_mixX 0 (.c 0 (.c 1 (.c 2 (.c 3 (.c 4 (.c 5 (.c 6 (.c 7 (.c 8 (.c 9 (.c 10 .done))))))))))) (by kernel_rfl) (by kernel_rfl) (Nat.zero_le _) (fun hap hapf => ?_)
      have d1 : ∀ z, (ap wr z).cell? ⟨gL, k, none⟩ = some (.int .i64 x) := fun z => (ap_ext wr z).cell hcx
      have d2 : ∀ z, (ap wr z).cell? ⟨g, k, none⟩ = some (.int .i64 x) := fun z => (ap_ext wr z).cell hcy
      have d3 : ∀ z, (ap wr z).cell? ⟨w.heap.size, 0, none⟩ = some (.slice (some ⟨gL, 0, none⟩) xs.length cL) := fun z => (ap_ext wr z).cell q2
      repeat (refine Mix.mix_q rfl rfl rfl (fun K hK => ?_); (conv => arg 2; whnf); (first | (go_big_quiet_op; refine hK _ ?_) | (go_simp; refine hK _ ?_)); clear hK K)
      (refine Mix.mix_c rfl rfl (fun K hK => ?_); (conv => arg 2; whnf); go_simp; apply Exists.intro; refine ⟨fun _ => ?_, hK _ ?_⟩; exact OpenNil_any _ _; clear hK K)
      repeat (refine Mix.mix_q rfl rfl rfl (fun K hK => ?_); (conv => arg 2; whnf); (first | (go_big_quiet_op; refine hK _ ?_) | (go_simp; refine hK _ ?_)); clear hK K)
      refine (Mix.mix_nil (fun w11 hE11 => ?_))
      clear hap hapf d1 d2 d3 hcx hcy
      (try dsimp only [Exit.then])
      go_wp2
      go_roundw
      case rel => exact ⟨k + 1, by omega, by go_num, hEk.trans ((Ext.refl _).drew'.trans hE11)⟩
      case measure => simp [intOf]; omega
    · go_wp2
      go_ret
      exact ⟨rfl, (hE01.trans E9).trans hEk⟩
end Go.Proofs.Ytoipadeeochbnaa
