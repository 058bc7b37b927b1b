import Derived.Test.YtoipadeeochbnaaRef2
namespace Go.Proofs.Ytoipadeeochbnaa
open Go.RowKit Mix
set_option linter.unusedVariables false
attribute [local go_sem] Mix.calm Oper.quietUpon
/-- A list made anew, or the same. -/
def SetOut (vL vE : Value) (xs : List Int) (es : List (Int × Int)) (i x : Int) (w : World) (e : Ending) (w' : World) : Prop :=
  ∃ vL' vE', e = .returned (.agg #[vL', vE']) ∧ RT w' vL' vE' (setV xs i x) (es ++ seenV xs.length i) ∧ NewOr w vL vL' ∧ NewOr w vE vE' ∧ Ext w w'
set_option maxRecDepth 100000 in
set_option maxHeartbeats 1000000 in
theorem refSet_any (vL vE : Value) (xs : List Int) (es : List (Int × Int)) (i n : Int) (w : World) (h : RT w vL vE xs es) (hx : xs.length ≤ 1000) (hl : es.length ≤ 1000) :
    Calls Try.prog 61 #[.agg #[vL, vE], .int .i64 i, .int .i64 n] w (SetOut vL vE xs es i n w) := by
  obtain ⟨aL, cL, rfl⟩ := own_form h.L
  obtain ⟨aE, cE, rfl⟩ := own_formS h.E
  by_cases h0 : i < 0
  · have hnp : ¬ isPlace i xs.length := fun hp => by have := hp.1; omega
    have e1 : setV xs i n = xs := by unfold setV; rw [if_neg hnp]
    have e2 : seenV xs.length i = [] := by unfold seenV; rw [if_neg hnp]
    go_enter Try.func61, Try.ntmps61
    go_wp2
    refine bodyPost_ret (v := _) (by simp [results, Try.results61, go_sem]; rfl) rfl ?_
    refine ⟨_, _, rfl, by rw [e1, e2, List.append_nil]; exact h.ext (by (repeat' (first | exact Ext.refl _ | assumption | refine Ext.alloc' ?_ _ | (refine Ext.set' ?_ (by first | omega | (simp; done) | (simp; omega)) _) | refine Ext.drew' ?_ | refine Ext.drewN' ?_ _ | refine Ext.trans ?_ (by assumption)))), NewOr.refl _ _, NewOr.refl _ _, by (repeat' (first | exact Ext.refl _ | assumption | refine Ext.alloc' ?_ _ | (refine Ext.set' ?_ (by first | omega | (simp; done) | (simp; omega)) _) | refine Ext.drew' ?_ | refine Ext.drewN' ?_ _ | refine Ext.trans ?_ (by assumption)))⟩
  · by_cases h1 : (xs.length : Int) ≤ i
    · have hnp : ¬ isPlace i xs.length := fun hp => by have := hp.2; omega
      have e1 : setV xs i n = xs := by unfold setV; rw [if_neg hnp]
      have e2 : seenV xs.length i = [] := by unfold seenV; rw [if_neg hnp]
      go_enter Try.func61, Try.ntmps61
      go_wp2
      refine bodyPost_ret (v := _) (by simp [results, Try.results61, go_sem]; rfl) rfl ?_
      refine ⟨_, _, rfl, by rw [e1, e2, List.append_nil]; exact h.ext (by (repeat' (first | exact Ext.refl _ | assumption | refine Ext.alloc' ?_ _ | (refine Ext.set' ?_ (by first | omega | (simp; done) | (simp; omega)) _) | refine Ext.drew' ?_ | refine Ext.drewN' ?_ _ | refine Ext.trans ?_ (by assumption)))), NewOr.refl _ _, NewOr.refl _ _, by (repeat' (first | exact Ext.refl _ | assumption | refine Ext.alloc' ?_ _ | (refine Ext.set' ?_ (by first | omega | (simp; done) | (simp; omega)) _) | refine Ext.drew' ?_ | refine Ext.drewN' ?_ _ | refine Ext.trans ?_ (by assumption)))⟩
    · have h00 : 0 ≤ i := by omega
      obtain ⟨k, rfl⟩ := Int.eq_ofNat_of_zero_le h00
      have hk : k < xs.length := by omega
      have hp : isPlace (k : Int) xs.length := ⟨by omega, by omega⟩
      have e2 : seenV xs.length (k : Int) = [(1, (k : Int))] := seenV_place hp
      have e1 : setV xs (k : Int) n = xs.set k n := by unfold setV; rw [if_pos hp]; rfl
      obtain ⟨x, hx1⟩ : ∃ x, xs[k]? = some x := ⟨_, List.getElem?_eq_getElem hk⟩
      obtain ⟨gL, cL', e3⟩ := ownsRow_form h.L (by omega)
      simp only [Value.slice.injEq, true_and] at e3
      obtain ⟨rfl, rfl⟩ := e3
      have hE1 : Ext w ((w.alloc (.cells #[.slice (some ⟨gL, 0, none⟩) xs.length cL, .slice aE es.length cE] 82)).alloc (.cells #[.slice none 0 0, .slice none 0 0] 82)) := ((Ext.refl w).alloc' _).alloc' _
      have k1 : ((w.alloc (.cells #[.slice (some ⟨gL, 0, none⟩) xs.length cL, .slice aE es.length cE] 82)).alloc (.cells #[.slice none 0 0, .slice none 0 0] 82)).heap[w.heap.size]? = some (.cells #[.slice (some ⟨gL, 0, none⟩) xs.length cL, .slice aE es.length cE] 82 (0, 0)) :=
        ((Ext.refl _).alloc' _).blk (World.alloc_heap_new w _)
      have k2 : ((w.alloc (.cells #[.slice (some ⟨gL, 0, none⟩) xs.length cL, .slice aE es.length cE] 82)).alloc (.cells #[.slice none 0 0, .slice none 0 0] 82)).heap[w.heap.size + 1]? = some (.cells #[.slice none 0 0, .slice none 0 0] 82 (0, 0)) := by
        have := World.alloc_heap_new (w.alloc (.cells #[.slice (some ⟨gL, 0, none⟩) xs.length cL, .slice aE es.length cE] 82)) (.cells #[.slice none 0 0, .slice none 0 0] 82)
        rwa [World.size_alloc] at this
      have hsz : ((w.alloc (.cells #[.slice (some ⟨gL, 0, none⟩) xs.length cL, .slice aE es.length cE] 82)).alloc (.cells #[.slice none 0 0, .slice none 0 0] 82)).heap.size = w.heap.size + 2 := by simp
      have hL1 := (h.ext hE1).L
      have hcs := hL1.cells (g := gL) rfl
      have hk' : (k : Int) < xs.length := by omega
      obtain ⟨i1, hi, hz0, hz1, hz2⟩ := info_parts Try.infoInt
      have hE1' := Lib.hid hE1
      have hL1' := Lib.hid hL1
      clear hE1 hL1
      go_enter Try.func61, Try.ntmps61
      go_wp2_with (first | (at_builtin; refine wpList_append_own _ rfl _ _ 63 rfl (w.heap.size + 2) 3 i1 _ 1 8 Try.underlying63 hi hz0 hz1 hz2 rfl (by decide) _ _ _ rfl (World.ownsRow_nil _ _ _ _) ⟨gL, 0, none⟩ xs.length cL (xs.map (Value.int .i64)) rfl (by simp) hcs (ints_one xs) (by unfold maxLen; omega) (by omega) (by rw [hsz]; exact Nat.le_refl _) ?_; intro v2 w2 hown2 hgrow2 _; rw [Nat.zero_add, List.nil_append] at hown2; obtain ⟨g2, c2, rfl⟩ := ownsRow_form hown2 (by omega); have s1 : w2.cell? ⟨g2, k, none⟩ = some (.int .i64 x) := (by (rw [hown2.cellAt k (by omega)]; simp [hx1])); have s2 := hown2.frozenAt k; have T2 : Turn [] ((w.alloc (.cells #[.slice (some ⟨gL, 0, none⟩) xs.length cL, .slice aE es.length cE] 82)).alloc (.cells #[.slice none 0 0, .slice none 0 0] 82)) w2 := turn_grownO hgrow2 (fun y e => by cases e); have b1 : w2.heap[w.heap.size]? = _ := (T2.block _ (by simp; omega) (by simp)).trans k1; have hg2 := (hown2.lt g2 rfl).1; have p1 : w2.cell? ⟨w.heap.size, 1, none⟩ = some (.slice aE es.length cE) := (by (rw [blk_cell b1]; rfl)); have p0 : w2.cell? ⟨w.heap.size, 0, none⟩ = some (.slice (some ⟨gL, 0, none⟩) xs.length cL) := (by (rw [blk_cell b1]; rfl)); have p2 : w2.frozen? ⟨w.heap.size, 0, none⟩ = false := blk_free b1 0; have z2 := blk_lt b1; have E02 : Ext w w2 := hE1'.out.trans' T2 (by simp); have T3 : Turn [g2, w.heap.size] w2 ((w2.setCell ⟨g2, k, none⟩ (.int .i64 n)).setCell ⟨w.heap.size, 0, none⟩ (.slice (some ⟨g2, 0, none⟩) xs.length c2)) := (turn_set (by simp)).seq (turn_set (by simp)); have hE3 := ownsRow_turn (ownsRow_turn h.E (F := []) (Turn.of_ext E02) (by simp)) T3 (fun y e => by (have := (h.E.lt y e).2; simp; omega))) | (go_at_call 122; fail))
      refine (refAdd_any (.slice aE es.length cE) es 1 (k : Int) _ hE3 h.nE hl).mono ?_
      rintro e w4 ⟨v4, rfl, hr4, hE4⟩
      obtain ⟨a4, c4, rfl⟩ := own_formS hr4
      have hS := hown2.stored k (.int .i64 n)
      have b3 : ((w2.setCell ⟨g2, k, none⟩ (.int .i64 n)).setCell ⟨w.heap.size, 0, none⟩ (.slice (some ⟨g2, 0, none⟩) xs.length c2)).heap[w.heap.size]? = some (.cells #[.slice (some ⟨g2, 0, none⟩) xs.length c2, .slice aE es.length cE] 82 (0, 0)) := blk_set ((Below.heap_setCell _ _ _ _ (by simp; omega)).trans b1)
      have b4 := hE4.blk b3
      have b4' : w4.heap[w.heap.size + 1]? = some (.cells #[.slice none 0 0, .slice none 0 0] 82 (0, 0)) := hE4.blk ((T3.block (w.heap.size + 1) (Nat.lt_of_lt_of_le (blk_lt k2) T2.size) (by simp; omega)).trans ((T2.block _ (blk_lt k2) (by simp)).trans k2))
      have u0 : w4.cell? ⟨w.heap.size, 0, none⟩ = some (.slice (some ⟨g2, 0, none⟩) xs.length c2) := (by (rw [blk_cell b4]; rfl))
      have u1 : w4.cell? ⟨w.heap.size, 1, none⟩ = some (.slice aE es.length cE) := (by (rw [blk_cell b4]; rfl))
      have u2 : w4.frozen? ⟨w.heap.size, 1, none⟩ = false := blk_free b4 1
      have u3 : w4.cell? ⟨w.heap.size + 1, 0, none⟩ = some (.slice none 0 0) := (by (rw [blk_cell b4']; rfl))
      have u4 : w4.cell? ⟨w.heap.size + 1, 1, none⟩ = some (.slice none 0 0) := (by (rw [blk_cell b4']; rfl))
      have u5 : w4.frozen? ⟨w.heap.size + 1, 0, none⟩ = false := blk_free b4' 0
      have u6 : w4.frozen? ⟨w.heap.size + 1, 1, none⟩ = false := blk_free b4' 1
      go_wp2
      refine bodyPost_ret (v := _) (by simp [results, Try.results61, go_sem, u0, u1, u3, u4]; rfl) rfl ?_
      have TF : Turn [w.heap.size, w.heap.size + 1] w4 (((w4.setCell ⟨w.heap.size, 1, none⟩ (.slice a4 (es.length + 1) c4)).setCell ⟨w.heap.size + 1, 0, none⟩ (.slice (some ⟨g2, 0, none⟩) xs.length c2)).setCell ⟨w.heap.size + 1, 1, none⟩ (.slice a4 (es.length + 1) c4)) :=
        ((turn_set (by simp)).seq (turn_set (by simp))).seq (turn_set (by simp))
      generalize ((w4.setCell ⟨w.heap.size, 1, none⟩ (.slice a4 (es.length + 1) c4)).setCell ⟨w.heap.size + 1, 0, none⟩ (.slice (some ⟨g2, 0, none⟩) xs.length c2)).setCell ⟨w.heap.size + 1, 1, none⟩ (.slice a4 (es.length + 1) c4) = wF at *
      have E03 : Ext w ((w2.setCell ⟨g2, k, none⟩ (.int .i64 n)).setCell ⟨w.heap.size, 0, none⟩ (.slice (some ⟨g2, 0, none⟩) xs.length c2)) := E02.trans' T3 (fun y hy => by simp at hy; omega)
      have E0F : Ext w wF := (E03.trans hE4).trans' TF (fun y hy => by simp at hy; omega)
      have z4 := Nat.le_trans T2.size T3.size
      rw [hsz] at z4
      rw [List.length_append, List.length_singleton] at hr4
      have hrF := ownsRow_turn hr4 TF (fun y e => by
        have := (hr4.lt y e).1
        simp
        omega)
      have hL4 := ownsRow_turn (ownsRow_turn hS.1 (turn_set (F := [w.heap.size]) (by simp)) (fun y e => by
        have e' : g2 = y := by simpa [Value.ownBlock] using e
        subst e'
        simp
        omega)) (Turn.of_ext hE4) (F := []) (by simp)
      have hLF := ownsRow_turn hL4 TF (fun y e => by
        have e' : g2 = y := by simpa [Value.ownBlock] using e
        subst e'
        simp
        omega)
      refine ⟨_, _, rfl, ⟨?_, ?_, fun hc => ?_⟩, fun y hy => .inr ?_, fun y hy => .inr ?_, E0F⟩
      · rw [e1, List.length_set, List.map_set]
        exact own_base hLF
      · rw [e2, List.length_append, List.length_singleton]
        exact own_base hrF
      · rw [e2] at hc
        simp at hc
      · have e' : y = g2 := by simpa [Value.ownBlock] using hy
        subst e'
        omega
      · have := (hr4.lt y (by simpa using hy)).1
        omega
end Go.Proofs.Ytoipadeeochbnaa
