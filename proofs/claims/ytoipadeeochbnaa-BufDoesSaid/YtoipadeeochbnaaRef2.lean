import Derived.Test.YtoipadeeochbnaaRef1
import Derived.Test.YtoipadeeochbnaaScan6
namespace Go.Proofs.Ytoipadeeochbnaa
open Go.RowKit Mix
set_option linter.unusedVariables false
attribute [local go_sem] Mix.calm Oper.quietUpon
theorem own_formS {w : World} {base size : Nat} {e : TypeId} {v : Value} {xs : List Value} {n : Nat} (h : w.ownsRow base e size v n xs) : ∃ a c, v = .slice a n c := by
  rcases h.2 with ⟨rfl, h0⟩ | ⟨g, cap, cur, rfl, _⟩
  · subst h0
    exact ⟨none, 0, rfl⟩
  · exact ⟨_, _, rfl⟩
/-- The document's buffer, by its two lists. -/
structure RT (w : World) (vL vE : Value) (xs : List Int) (es : List (Int × Int)) : Prop where
  L : w.ownsRow 0 3 1 vL xs.length (xs.map (Value.int .i64))
  E : w.ownsRow 0 145 2 vE es.length (evCells es)
  nE : es = [] → vE = .slice none 0 0
theorem RT.ext {w w' : World} {vL vE : Value} {xs : List Int} {es : List (Int × Int)} (h : RT w vL vE xs es) (k : Ext w w') : RT w' vL vE xs es :=
  ⟨ownsRow_turn h.L (Turn.of_ext k) (F := []) (by simp), ownsRow_turn h.E (Turn.of_ext k) (F := []) (by simp), h.nE⟩
theorem RT.turn {w w' : World} {F : List Nat} {vL vE : Value} {xs : List Int} {es : List (Int × Int)} (h : RT w vL vE xs es) (k : Turn F w w') (hL : ∀ y ∈ vL.ownBlock.toList, y ∉ F) (hE : ∀ y ∈ vE.ownBlock.toList, y ∉ F) : RT w' vL vE xs es :=
  ⟨ownsRow_turn h.L k (fun y e => hL y (by simp [e])), ownsRow_turn h.E k (fun y e => hE y (by simp [e])), h.nE⟩
/-- A list is the old one, or new. -/
def NewOr (w : World) (v v' : Value) : Prop := ∀ y ∈ v'.ownBlock.toList, y ∈ v.ownBlock.toList ∨ w.heap.size ≤ y
theorem NewOr.refl (w : World) (v : Value) : NewOr w v v := fun y h => .inl h
theorem NewOr.trans {w w' : World} {u v v' : Value} (h : NewOr w u v) (k : NewOr w' v v') (hs : w.heap.size ≤ w'.heap.size) : NewOr w u v' := fun y hy => (k y hy).elim (fun m => h y m) (fun m => .inr (Nat.le_trans hs m))
def GetOut (vL vE : Value) (xs : List Int) (es : List (Int × Int)) (i : Int) (w : World) (e : Ending) (w' : World) : Prop :=
  ∃ vE', e = .returned (.tuple #[.agg #[vL, vE'], .int .i64 (getV xs i)]) ∧ RT w' vL vE' xs (es ++ seenV xs.length i) ∧ NewOr w vE vE' ∧ Ext w w'
set_option maxRecDepth 100000 in
set_option maxHeartbeats 1000000 in
theorem refGet_any (vL vE : Value) (xs : List Int) (es : List (Int × Int)) (i : Int) (w : World) (h : RT w vL vE xs es) (hx : xs.length ≤ 1000) (hl : es.length ≤ 1000) :
    Calls Try.prog 62 #[.agg #[vL, vE], .int .i64 i] w (GetOut vL vE xs es i w) := by
  obtain ⟨aL, cL, rfl⟩ := own_form h.L
  obtain ⟨aE, cE, rfl⟩ := own_formS h.E
  by_cases h0 : i < 0
  · have hnp : ¬ isPlace i xs.length := fun hp => by have := hp.1; omega
    have e1 : getV xs i = 0 := by unfold getV; rw [if_neg hnp]
    have e2 : seenV xs.length i = [] := by unfold seenV; rw [if_neg hnp]
    go_enter Try.func62, Try.ntmps62
    go_wp2
    refine bodyPost_ret (v := _) (by simp [results, Try.results62, go_sem]; rfl) rfl ?_
    refine ⟨_, by rw [e1], by rw [e2, List.append_nil]; exact h.ext (by (repeat' (first | exact Ext.refl _ | assumption | refine Ext.alloc' ?_ _ | (refine Ext.set' ?_ (by first | omega | (simp; done) | (simp; omega)) _) | refine Ext.drew' ?_ | refine Ext.drewN' ?_ _ | refine Ext.trans ?_ (by assumption)))), NewOr.refl _ _, by (repeat' (first | exact Ext.refl _ | assumption | refine Ext.alloc' ?_ _ | (refine Ext.set' ?_ (by first | omega | (simp; done) | (simp; omega)) _) | refine Ext.drew' ?_ | refine Ext.drewN' ?_ _ | refine Ext.trans ?_ (by assumption)))⟩
  · by_cases h1 : (xs.length : Int) ≤ i
    · have hnp : ¬ isPlace i xs.length := fun hp => by have := hp.2; omega
      have e1 : getV xs i = 0 := by unfold getV; rw [if_neg hnp]
      have e2 : seenV xs.length i = [] := by unfold seenV; rw [if_neg hnp]
      go_enter Try.func62, Try.ntmps62
      go_wp2
      refine bodyPost_ret (v := _) (by simp [results, Try.results62, go_sem]; rfl) rfl ?_
      refine ⟨_, by rw [e1], by rw [e2, List.append_nil]; exact h.ext (by (repeat' (first | exact Ext.refl _ | assumption | refine Ext.alloc' ?_ _ | (refine Ext.set' ?_ (by first | omega | (simp; done) | (simp; omega)) _) | refine Ext.drew' ?_ | refine Ext.drewN' ?_ _ | refine Ext.trans ?_ (by assumption)))), NewOr.refl _ _, by (repeat' (first | exact Ext.refl _ | assumption | refine Ext.alloc' ?_ _ | (refine Ext.set' ?_ (by first | omega | (simp; done) | (simp; omega)) _) | refine Ext.drew' ?_ | refine Ext.drewN' ?_ _ | refine Ext.trans ?_ (by assumption)))⟩
    · have h00 : 0 ≤ i := by omega
      obtain ⟨k, rfl⟩ := Int.eq_ofNat_of_zero_le h00
      have hk : k < xs.length := by omega
      have hp : isPlace (k : Int) xs.length := ⟨by omega, by omega⟩
      have e2 : seenV xs.length (k : Int) = [(1, (k : Int))] := seenV_place hp
      obtain ⟨x, hx1⟩ : ∃ x, xs[k]? = some x := ⟨_, List.getElem?_eq_getElem hk⟩
      have e1 : getV xs (k : Int) = x := getV_get hx1
      obtain ⟨gL, cL', e3⟩ := ownsRow_form h.L (by omega)
      simp only [Value.slice.injEq, true_and] at e3
      obtain ⟨rfl, rfl⟩ := e3
      have hE1 : Ext w ((w.alloc (.cells #[.slice (some ⟨gL, 0, none⟩) xs.length cL, .slice aE es.length cE] 82)).alloc (.cells #[.slice none 0 0, .slice none 0 0] 82)) := ((Ext.refl w).alloc' _).alloc' _
      have k1 : ((w.alloc (.cells #[.slice (some ⟨gL, 0, none⟩) xs.length cL, .slice aE es.length cE] 82)).alloc (.cells #[.slice none 0 0, .slice none 0 0] 82)).heap[w.heap.size]? = some (.cells #[.slice (some ⟨gL, 0, none⟩) xs.length cL, .slice aE es.length cE] 82 (0, 0)) :=
        ((Ext.refl _).alloc' _).blk (World.alloc_heap_new w _)
      have k2 : ((w.alloc (.cells #[.slice (some ⟨gL, 0, none⟩) xs.length cL, .slice aE es.length cE] 82)).alloc (.cells #[.slice none 0 0, .slice none 0 0] 82)).heap[w.heap.size + 1]? = some (.cells #[.slice none 0 0, .slice none 0 0] 82 (0, 0)) := by
        have := World.alloc_heap_new (w.alloc (.cells #[.slice (some ⟨gL, 0, none⟩) xs.length cL, .slice aE es.length cE] 82)) (.cells #[.slice none 0 0, .slice none 0 0] 82)
        rwa [World.size_alloc] at this
      have mA := refAdd_any (.slice aE es.length cE) es 1 (k : Int) _ (h.ext hE1).E h.nE hl
      have hE1' := Lib.hid hE1
      go_enter Try.func62, Try.ntmps62
      go_wp2_with fail
      refine mA.mono ?_
      rintro e w2 ⟨v2, rfl, hr2, hE2⟩
      obtain ⟨a2, c2, rfl⟩ := own_formS hr2
      have b1 := hE2.blk k1
      have b2 := hE2.blk k2
      have hE02 := hE1'.out.trans hE2
      have p0 : w2.cell? ⟨w.heap.size, 0, none⟩ = some (.slice (some ⟨gL, 0, none⟩) xs.length cL) := by rw [blk_cell b1]; rfl
      have p1 : w2.cell? ⟨w.heap.size, 1, none⟩ = some (.slice aE es.length cE) := by rw [blk_cell b1]; rfl
      have p2 : w2.frozen? ⟨w.heap.size, 1, none⟩ = false := blk_free b1 1
      have zz := blk_lt b2
      clear mA k1 k2 hE1
      go_wp2
      obtain ⟨w3, hw3⟩ : ∃ w3, w3 = w2.setCell ⟨w.heap.size, 1, none⟩ (.slice a2 (es.length + 1) c2) := ⟨_, rfl⟩
      have T3 : Turn [w.heap.size] w2 w3 := by rw [hw3]; exact turn_set (by simp)
      have c1 : w3.heap[w.heap.size]? = some (.cells #[.slice (some ⟨gL, 0, none⟩) xs.length cL, .slice a2 (es.length + 1) c2] 82 (0, 0)) := by rw [hw3]; exact blk_set b1
      have c2' : w3.heap[w.heap.size + 1]? = some (.cells #[.slice none 0 0, .slice none 0 0] 82 (0, 0)) := by rw [hw3]; exact (Below.heap_setCell _ _ _ _ (by simp)).trans b2
      have hE03 : Ext w w3 := by rw [hw3]; exact hE02.set' (by simp) _
      rw [← hw3]
      have hL3 := ownsRow_turn h.L (F := []) (Turn.of_ext hE03) (by simp)
      rw [List.length_append, List.length_singleton, World.size_alloc, World.size_alloc] at hr2
      have hr3 : w3.ownsRow (w.heap.size + 1 + 1) 145 2 (.slice a2 (es.length + 1) c2) (es.length + 1) (evCells (es ++ [(1, (k : Int))])) :=
        ownsRow_turn hr2 T3 (fun y e => by
          have := (hr2.lt y e).1
          simp
          omega)
      have z3 := blk_lt c2'
      clear hw3 b1 b2 p0 p1 p2 T3 hr2 hE02 hE2 hE1'
      have q0 : w3.cell? ⟨w.heap.size, 0, none⟩ = some (.slice (some ⟨gL, 0, none⟩) xs.length cL) := by rw [blk_cell c1]; rfl
      have q1 : w3.cell? ⟨w.heap.size, 1, none⟩ = some (.slice a2 (es.length + 1) c2) := by rw [blk_cell c1]; rfl
      have q2 : w3.cell? ⟨gL, k, none⟩ = some (.int .i64 x) := by
        rw [hL3.cellAt k (by omega)]
        simp [hx1]
      have hgl : gL < w3.heap.size := (hL3.lt gL rfl).2
      have hgn : gL < w.heap.size := (h.L.lt gL rfl).2
      have hk' : (k : Int) < xs.length := by omega
      refine Mix.wp_region_mixK [w.heap.size, gL] (.c 0 (.c 1 (.c 2 (.c 3 (.c 4 (.c 5 (.e 6 (.c 7 .done)))))))) (by kernel_rfl) (by kernel_rfl) (by simp; omega) ?_
      have d0 := Mix.Keeps.cell (L := [w.heap.size, gL]) (by simp) q0
      have d1 := Mix.Keeps.cell (L := [w.heap.size, gL]) (by simp) q1
      have d2 := Mix.Keeps.cell (L := [w.heap.size, gL]) (by simp) q2
      repeat (first | (refine Mix.mix_q rfl rfl rfl (fun K hK => ?_); (conv => arg 2; whnf); (first | (go_big_quiet_op; refine hK _ ?_) | (go_simp; refine hK _ ?_)); clear hK K) | (refine Mix.mix_nilK rfl rfl rfl rfl (fun K hK => ?_); (conv => arg 1; whnf); go_simp; refine hK _ ?_; clear hK K))
      refine Mix.mix_one rfl rfl (fun w5 hE5 K hK => ?_)
      (conv => arg 2; whnf)
      have E5 : Ext w3 w5 := (Ext.refl w3).drew'.trans hE5
      have b5 := E5.blk c2'
      have r0 : w5.cell? ⟨w.heap.size + 1, 0, none⟩ = some (.slice none 0 0) := by rw [blk_cell b5]; rfl
      have r1 : w5.cell? ⟨w.heap.size + 1, 1, none⟩ = some (.slice none 0 0) := by rw [blk_cell b5]; rfl
      have f0 : w5.frozen? ⟨w.heap.size + 1, 0, none⟩ = false := blk_free b5 0
      have f1 : w5.frozen? ⟨w.heap.size + 1, 1, none⟩ = false := blk_free b5 1
      go_big_op
      obtain ⟨w6, hw6⟩ : ∃ w6, w6 = (w5.setCell ⟨w.heap.size + 1, 0, none⟩ (.slice (some ⟨gL, 0, none⟩) xs.length cL)).setCell ⟨w.heap.size + 1, 1, none⟩ (.slice a2 (es.length + 1) c2) := ⟨_, rfl⟩
      have b6 : w6.heap[w.heap.size + 1]? = some (.cells #[.slice (some ⟨gL, 0, none⟩) xs.length cL, .slice a2 (es.length + 1) c2] 82 (0, 0)) := by rw [hw6]; exact blk_set (blk_set b5)
      have T6 : Turn [w.heap.size + 1] w5 w6 := by rw [hw6]; exact (turn_set (by simp)).seq (turn_set (by simp))
      have T36 : Turn [w.heap.size + 1] w3 w6 := (Turn.of_ext E5).seq T6
      refine hK _ _ (Mix.yes (fun y hy => by
        simp only [List.mem_cons, List.not_mem_nil, or_false] at hy
        rw [← hw6]
        refine T36.block y ?_ (fun hm => ?_)
        · rcases hy with rfl | rfl
          · omega
          · exact hgl
        · simp only [List.mem_singleton] at hm
          rcases hy with rfl | rfl <;> omega)) ?_
      rw [← hw6]
      clear hw6 hK K
      repeat (first | (refine Mix.mix_q rfl rfl rfl (fun K hK => ?_); (conv => arg 2; whnf); (first | (go_big_quiet_op; refine hK _ ?_) | (go_simp; refine hK _ ?_)); clear hK K) | (refine Mix.mix_nilK rfl rfl rfl rfl (fun K hK => ?_); (conv => arg 1; whnf); go_simp; refine hK _ ?_; clear hK K))
      refine Mix.mix_nil (fun w8 hE8 => ?_)
      (try dsimp only [Exit.then])
      have b8 := hE8.blk b6
      have t0 : w8.cell? ⟨w.heap.size + 1, 0, none⟩ = some (.slice (some ⟨gL, 0, none⟩) xs.length cL) := by rw [blk_cell b8]; rfl
      have t1 : w8.cell? ⟨w.heap.size + 1, 1, none⟩ = some (.slice a2 (es.length + 1) c2) := by rw [blk_cell b8]; rfl
      have T8 : Turn [w.heap.size + 1] w3 w8 := T36.seq (Turn.of_ext hE8)
      have hE08 : Ext w w8 := hE03.trans' T8 (fun y hy => by simp at hy; omega)
      clear q0 q1 q2 d0 d1 d2 r0 r1 f0 f1
      go_wp2
      refine bodyPost_ret (v := _) (by simp [results, Try.results62, go_sem, t0, t1]; rfl) rfl ?_
      have hr8 := ownsRow_turn hr3 T8 (fun y e => by
        have := (hr3.lt y e).1
        simp
        omega)
      refine ⟨_, by rw [e1], ⟨ownsRow_turn h.L (F := []) (Turn.of_ext hE08) (by simp), ?_, fun hc => ?_⟩, fun y hy => .inr ?_, hE08⟩
      · rw [e2, List.length_append, List.length_singleton]
        exact own_base hr8
      · rw [e2] at hc
        simp at hc
      · have := (hr3.lt y (by simpa using hy)).1
        omega
end Go.Proofs.Ytoipadeeochbnaa
