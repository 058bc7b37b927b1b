import Derived.Test.YtoipadeeochbnaaEvs
import Derived.Test.YtoipadeeochbnaaBuf6
import Derived.Test.YtoipadeeochbnaaOfB5
namespace Go.Proofs.Ytoipadeeochbnaa
open Go.RowKit Mix
set_option linter.unusedVariables false
attribute [local go_sem] Mix.calm Oper.quietUpon
theorem ev_one (es : List (Int × Int)) : ∀ u ∈ evCells es, u.oneCell' = true := by
  intro u hu
  simp only [evCells, List.mem_flatMap, List.mem_cons, List.not_mem_nil, or_false] at hu
  obtain ⟨e, _, rfl | rfl⟩ := hu <;> rfl
theorem evCells_len (es : List (Int × Int)) : (evCells es).length = es.length * 2 := by
  induction es with
  | nil => rfl
  | cons e l ih => simp only [evCells, List.flatMap_cons, List.length_append, List.length_cons, List.length_nil] at ih ⊢; omega
/-- A new list with one event more. -/
def AddOut (es : List (Int × Int)) (k n : Int) (w : World) (e : Ending) (w' : World) : Prop :=
  ∃ v, e = .returned v ∧ w'.ownsRow w.heap.size 145 2 v (es ++ [(k, n)]).length (evCells (es ++ [(k, n)])) ∧ Ext w w'
set_option maxRecDepth 100000 in
theorem refAdd_any (vE : Value) (es : List (Int × Int)) (k n : Int) (w : World) (h : w.ownsRow 0 145 2 vE es.length (evCells es)) (hn : es = [] → vE = .slice none 0 0) (hl : es.length ≤ 1000) :
    Calls Try.prog 122 #[vE, .int .i64 k, .int .i64 n] w (AddOut es k n w) := by
  obtain ⟨i0, hi, hz0, hz1, hz2⟩ := info_parts Try.infoEv
  rcases Nat.eq_zero_or_pos es.length with h0 | h0
  · have hx : es = [] := List.eq_nil_of_length_eq_zero h0
    obtain rfl := hn hx
    subst hx
    go_enter Try.func122, Try.ntmps122
    go_wp2_with (at_builtin; refine wpList_append_own _ rfl _ _ 35 rfl w.heap.size 145 i0 _ 2 16 Try.underlying35 hi hz0 hz1 hz2 rfl (by decide) _ _ _ rfl (World.ownsRow_nil _ _ _ _) ⟨w.heap.size, 0, none⟩ 1 1 [.int .i64 k, .int .i64 n] rfl rfl (cells_two_new _ _ _ _) (by simp [Value.oneCell']) (by unfold maxLen; omega) (by omega) (by simp) ?_; intro v' w2 hown' hgrow _)
    go_ret
    have hT : Turn [] (w.alloc (.cells #[.int .i64 k, .int .i64 n] 145)) w2 := turn_grownO hgrow (fun y e => by cases e)
    exact ⟨_, rfl, hown', Below.trans ((Ext.refl w).alloc' _) (hT.below (B := w.heap.size) (by simp) (by simp))⟩
  · obtain ⟨g, cp, rfl⟩ := ownsRow_form h h0
    have hcs := h.cells (g := g) rfl
    go_enter Try.func122, Try.ntmps122
    go_wp2_with (first
      | (at_builtin; refine wpList_append_own _ rfl _ _ 35 rfl w.heap.size 145 i0 _ 2 16 Try.underlying35 hi hz0 hz1 hz2 rfl (by decide) _ _ _ rfl (World.ownsRow_nil _ _ _ _) ⟨g, 0, none⟩ es.length cp (evCells es) rfl (evCells_len es) hcs (ev_one es) (by unfold maxLen; omega) (by omega) (Nat.le_refl _) ?_; intro v1 w1 hown1 hgrow1 _; rw [Nat.zero_add, List.nil_append] at hown1)
      | (at_builtin; refine wpList_append_own _ rfl _ _ 35 rfl w.heap.size 145 i0 _ 2 16 Try.underlying35 hi hz0 hz1 hz2 rfl (by decide) _ _ _ rfl (hown1.alloc _) ⟨w1.heap.size, 0, none⟩ 1 1 [.int .i64 k, .int .i64 n] rfl rfl (cells_two_new _ _ _ _) (by simp [Value.oneCell']) (by unfold maxLen; omega) (by omega) (by have := hgrow1.size; simp; omega) ?_; intro v2 w2 hown2 hgrow2 _))
    go_ret
    have hT1 : Turn [] w w1 := turn_grownO hgrow1 (fun y e => by cases e)
    have hE1 : Ext w w1 := hT1.below (B := w.heap.size) (by simp) (Nat.le_refl _)
    have hT2 : Turn v1.ownBlock.toList (w1.alloc (.cells #[.int .i64 k, .int .i64 n] 145)) w2 := turn_grownO hgrow2 (fun y e => by
      have e' : v1.ownBlock = some y := e
      simp [e'])
    refine ⟨_, rfl, ?_, ?_⟩
    · rw [evCells_snoc, List.length_append]
      exact hown2
    · exact (hE1.trans ((Ext.refl w1).alloc' _)).trans' hT2 (fun y hy => (hown1.lt y (by simpa using hy)).1)
end Go.Proofs.Ytoipadeeochbnaa
