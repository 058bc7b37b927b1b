import Derived.Test.YtoipadeeochbnaaRef5
import Derived.Test.YtoipadeeochbnaaKnown05
namespace Go.Proofs.Ytoipadeeochbnaa
open Go.RowKit Mix
set_option linter.unusedVariables false
attribute [local go_sem] Mix.calm Oper.quietUpon
theorem evCells_get {es : List (Int × Int)} {k : Nat} {x : Int × Int} (h : es[k]? = some x) : (evCells es)[k * 2]? = some (.int .i64 x.1) ∧ (evCells es)[k * 2 + 1]? = some (.int .i64 x.2) := by
  induction es generalizing k with
  | nil => simp at h
  | cons e l ih =>
    cases k with
    | zero =>
      simp at h
      subst h
      exact ⟨rfl, rfl⟩
    | succ k =>
      have := ih (k := k) (by simpa using h)
      have e1 : (k + 1) * 2 = k * 2 + 1 + 1 := by omega
      rw [e1]
      exact ⟨this.1, this.2⟩
theorem evCell {w : World} {base g cp : Nat} {es : List (Int × Int)} {n : Nat} (h : w.ownsRow base 145 2 (.slice (some ⟨g, 0, none⟩) n cp) es.length (evCells es)) {k : Nat} {x : Int × Int} (hx : es[k]? = some x) :
    w.cell? ⟨g, k * 2, none⟩ = some (.int .i64 x.1) ∧ w.cell? ⟨g, k * 2 + 1, none⟩ = some (.int .i64 x.2) := by
  obtain ⟨h1, h2⟩ := evCells_get hx
  have hc := h.cells (g := g) rfl
  have e : ∀ j, ((⟨g, 0, none⟩ : Addr).add j) = ⟨g, j, none⟩ := fun j => by simp [Addr.add]; exact fun h => h.symm
  have c1 := hc _ _ h1
  have c2 := hc _ _ h2
  rw [e] at c1 c2
  exact ⟨c1, c2⟩
set_option maxRecDepth 100000 in
theorem evSame_any (v1 v2 : Value) (es : List (Int × Int)) (w : World) (h1 : w.ownsRow 0 145 2 v1 es.length (evCells es)) (h2 : w.ownsRow 0 145 2 v2 es.length (evCells es)) (hl : es.length ≤ 1000) :
    Calls Try.prog 63 #[v1, v2] w fun e w' => e = .returned (.bool true) ∧ Ext w w' := by
  obtain ⟨a1, c1, rfl⟩ := own_formS h1
  obtain ⟨a2, c2, rfl⟩ := own_formS h2
  have hd0 : ((es.length : Int) == (es.length : Int)) = true := by simp
  go_enter Try.func63, Try.ntmps63
  go_wp2
  go_loopw [5] (fun t wr => ∃ k : Nat, k ≤ es.length ∧ t = .int .i64 k ∧ Ext w wr) (fun t _ => es.length - (intOf t).toNat)
  case atStart => exact ⟨0, Nat.zero_le _, rfl, Ext.refl _⟩
  case round =>
    obtain ⟨k, hk, rfl, hEk⟩ := hrel
    by_cases hlt : k < es.length
    · obtain ⟨x, hx⟩ : ∃ x, es[k]? = some x := ⟨_, List.getElem?_eq_getElem hlt⟩
      have r1 := ownsRow_turn h1 (F := []) (Turn.of_ext hEk) (by simp)
      have r2 := ownsRow_turn h2 (F := []) (Turn.of_ext hEk) (by simp)
      obtain ⟨g1, p1, e1⟩ := ownsRow_form r1 (by omega)
      obtain ⟨g2, p2, e2⟩ := ownsRow_form r2 (by omega)
      simp only [Value.slice.injEq, true_and] at e1 e2
      obtain ⟨rfl, rfl⟩ := e1
      obtain ⟨rfl, rfl⟩ := e2
      obtain ⟨y1, y2⟩ := evCell r1 hx
      obtain ⟨z1, z2⟩ := evCell r2 hx
      clear hx r1 r2
      go_wp2
      refine Mix.wp_region_mixX 0 (.c 0 (.c 1 (.c 2 (.c 3 (.c 4 (.c 5 (.c 6 (.c 7 (.c 8 .done))))))))) (by kernel_rfl) (by kernel_rfl) (Nat.zero_le _) (fun hap hapf => ?_)
      have d1 : ∀ z, (ap wr z).cell? ⟨g1, k * 2, none⟩ = some (.int .i64 x.1) := fun z => (ap_ext wr z).cell y1
      have d2 : ∀ z, (ap wr z).cell? ⟨g1, k * 2 + 1, none⟩ = some (.int .i64 x.2) := fun z => (ap_ext wr z).cell y2
      have d3 : ∀ z, (ap wr z).cell? ⟨g2, k * 2, none⟩ = some (.int .i64 x.1) := fun z => (ap_ext wr z).cell z1
      have d4 : ∀ z, (ap wr z).cell? ⟨g2, k * 2 + 1, none⟩ = some (.int .i64 x.2) := fun z => (ap_ext wr z).cell z2
      repeat (refine Mix.mix_q rfl rfl rfl (fun K hK => ?_); (conv => arg 2; whnf); (first | (go_big_quiet_op; refine hK _ ?_) | (go_simp; refine hK _ ?_)); clear hK K)
      refine (Mix.mix_nil (fun w9 hE9 => ?_))
      clear hap hapf d1 d2 d3 d4 y1 y2 z1 z2
      (try dsimp only [Exit.then])
      go_wp2
      go_roundw
      case rel => exact ⟨k + 1, by omega, by go_num, hEk.trans ((Ext.refl _).drew'.trans hE9)⟩
      case measure => simp [intOf]; omega
    · go_wp2
      go_ret
      exact ⟨rfl, hEk⟩
end Go.Proofs.Ytoipadeeochbnaa
