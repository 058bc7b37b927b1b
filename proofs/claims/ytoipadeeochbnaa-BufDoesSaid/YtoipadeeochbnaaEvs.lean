import Derived.Test.YtoipadeeochbnaaCnt
import Derived.Maps.AppendAt
namespace Go.Proofs.Ytoipadeeochbnaa
open Go.RowKit Mix
set_option linter.unusedVariables false
attribute [local go_sem] Mix.calm Oper.quietUpon Oper.semAt_some
theorem Turn.keeps {B : Nat} {G : List Nat} {W W' : World} (h : Turn G W W') (hG : ∀ x ∈ G, ∀ o, W.heap[x]? = some o → o.isCells = true) : KeepsFrom B W W' :=
  ⟨h.size, fun k o _ hk ho => (h.block k (blk_lt hk) (fun hm => by have := hG k hm o hk; rw [ho] at this; cases this)).trans hk⟩
theorem own_cells {W : World} {base : Nat} {e : TypeId} {size : Nat} {v : Value} {n : Nat} {xs : List Value} (h : W.ownsRow base e size v n xs) : ∀ x, v.ownBlock = some x → ∀ o, W.heap[x]? = some o → o.isCells = true := by
  intro x hx o ho
  rcases h.2 with ⟨rfl, _⟩ | ⟨g, cap, cur, rfl, _, hc, _⟩
  · simp [Value.ownBlock] at hx
  · simp only [Value.ownBlock, Option.some.injEq] at hx
    subst hx
    rw [hc] at ho
    cases ho
    rfl
theorem cells_two_new (w : World) (a b : Value) (t : TypeId) : ∀ (j : Nat) (u : Value), [a, b][j]? = some u → (w.alloc (.cells #[a, b] t)).cell? ((⟨w.heap.size, 0, none⟩ : Addr).add j) = some u := by
  intro j u hj
  have h := World.alloc_heap_new w (.cells #[a, b] t)
  have : (⟨w.heap.size, 0, none⟩ : Addr).add j = ⟨w.heap.size, j, none⟩ := by simp [Addr.add]; exact fun h => h.symm
  rw [this, blk_cell h]
  simpa using hj
def evCells (es : List (Int × Int)) : List Value := es.flatMap fun e => [.int .i64 e.1, .int .i64 e.2]
theorem evCells_snoc (es : List (Int × Int)) (e : Int × Int) : evCells (es ++ [e]) = evCells es ++ [.int .i64 e.1, .int .i64 e.2] := by simp [evCells]
theorem boxed_app {W w2 : World} {b base : Nat} {T e : TypeId} {size k : Nat} {v v' : Value} {xs ys : List Value} (g0 : Boxed W b T v) (hne : T ≠ e) (g1 : W.ownsRow base e size v k xs) (o : Obj)
    (hown' : w2.ownsRow base e size v' (k + 1) ys) (hgr : (W.alloc o).grownBy w2 v.ownBlock) : ∃ g' cap', v' = .slice (some ⟨g', 0, none⟩) (k + 1) cap' ∧ Boxed w2 b T v := by
  obtain ⟨g', cap', rfl⟩ := Go.ownsRow_succ hown'
  exact ⟨g', cap', rfl, (g0.alloc o).kept hgr (Boxed.not_row (g0.alloc o) hne (g1.alloc o))⟩
/-- What comes back is a new list of these events. -/
def EvOut (es : List (Int × Int)) (w : World) (e : Ending) (w' : World) : Prop :=
  ∃ v, e = .returned v ∧ w'.ownsRow w.heap.size 145 2 v es.length (evCells es) ∧ (es = [] → v = .slice none 0 0) ∧ Ext w w'
theorem Try.infoEv : (Try.prog.info? 145).map (fun i => (i.zero, i.size, i.bytes)) = some (some (.agg #[.int .i64 0, .int .i64 0]), 2, 16) := by kernel_rfl
set_option maxRecDepth 100000 in
theorem Events_rc (r : Nat) (es : List (Int × Int)) (F : List Nat) (w : World) (h : Rc w (some r) es F) (hl : es.length ≤ 316) :
    Calls Try.prog 36 #[.pointer (some ⟨r, 0, none⟩)] w (EvOut es w) := by
  refine (callsIn_wide (n := 9)).1 (callsIn_of_wp_marks Try.func36 rfl trivial ?_ rfl)
  simp only [Try.ntmps36, List.size_toArray, List.length_cons, List.length_nil, Nat.reduceAdd, Nat.reduceSub, Array.replicate_succ, Array.replicate_zero, List.push_toArray, List.append_toArray, List.nil_append, List.cons_append]
  gi_wp2
  have hE1 : Ext w (w.alloc (.cells #[.slice none 0 0] 35)) := (Ext.refl w).alloc' _
  have hB0 : Boxed (w.alloc (.cells #[.slice none 0 0] 35)) w.heap.size 35 (.slice none 0 0) := Boxed.new w _ _
  have hz : (w.alloc (.cells #[.slice none 0 0] 35)).heap.size = w.heap.size + 1 := by simp
  generalize w.alloc (.cells #[.slice none 0 0] 35) = w1 at *
  have hR1 := h.ext hE1
  have hFlt := h.lt
  obtain ⟨i0, hi, hz0, hz1, hz2⟩ := info_parts Try.infoEv
  refine wp_range (gf := 101) (fb := #[.pointer (some ⟨r, 0, none⟩)]) (lb := #[]) rfl (enters_of Try.func101 (by kernel_rfl) rfl) (encs := encE) (fun _ => rfl)
    (J := fun pre W => (∃ v, Boxed W w.heap.size 35 v ∧ W.ownsRow w.heap.size 145 2 v pre.length (evCells pre) ∧ (pre = [] → v = .slice none 0 0)) ∧ Rc W (some r) es F ∧ Ext w W)
    (each_gives r es F _ _ (fun _ _ h => h.2.1) (fun _ _ _ ⟨⟨v, h1, h2, h3⟩, h4, h5⟩ k => ⟨⟨v, k.blk h1, ownsRow_turn h2 (Turn.of_ext (F := []) k) (by simp), h3⟩, h4.ext k, h5.trans k⟩))
    (fun pre x a' W => ((∃ v, Boxed W w.heap.size 35 v ∧ W.ownsRow w.heap.size 145 2 v pre.length (evCells pre) ∧ (pre = [] → v = .slice none 0 0)) ∧ Rc W (some r) es F ∧ Ext w W) ∧
      ∃ Bx, w.heap.size + 1 ≤ Bx ∧ W.heap[Bx]? = some (.cells #[.int .i64 x.1, .int .i64 x.2] 145 (0, 0)) ∧
        a' = { tmps := #[.pointer (some ⟨r, 0, none⟩), undef, .slice none 0 0, .pointer (some ⟨w.heap.size, 0, none⟩), .pointer (some ⟨Bx, 0, none⟩), .pointer (some ⟨r, 0, none⟩),
          .func (.func 101) #[.pointer (some ⟨r, 0, none⟩)] #[], .agg #[.int .i64 x.1, .int .i64 x.2], undef, undef, undef, undef, undef], defers := [] })
    (fun _ _ ⟨⟨v, h1, h2, h3⟩, h4, h5⟩ k => ⟨⟨v, boxed_book h1 k, ownsRow_book h2 k, h3⟩, h4.book k, ext_book h5 (by omega) k⟩)
    (fun _ _ _ ⟨⟨v, h1, h2, h3⟩, h4, h5⟩ k => ⟨⟨v, boxed_book h1 k, ownsRow_book h2 k, h3⟩, h4.book k, ext_book h5 (by omega) k⟩)
    (fun _ _ _ _ _ ⟨⟨⟨v, h1, h2, h3⟩, h4, h5⟩, Bx, h6, h7, h8⟩ k => ⟨⟨⟨v, boxed_book h1 k, ownsRow_book h2 k, h3⟩, h4.book k, ext_book h5 (by omega) k⟩, Bx, h6, k.same _ _ (.inr rfl) h7, h8⟩)
    ⟨⟨_, hB0, World.ownsRow_nil _ _ _ _, fun _ => rfl⟩, hR1, hE1⟩ ?assign ?body ?done
  case assign =>
    rintro l pre x W K hpx ⟨⟨v, g0, g1, g2⟩, g3, g4⟩ hK
    simp only [encE]
    gi_wp2
    refine hK _ _ ?_ ?_
    · exact (KeepsOthers.alloc _ _).from _
    · have := g0.lt
      exact ⟨⟨⟨v, g0.alloc _, g1.alloc _, g2⟩, g3.ext ((Ext.refl _).alloc' _), g4.alloc' _⟩, W.heap.size, by omega, World.alloc_heap_new W _, rfl⟩
  case body =>
    rintro l pre x a' W hpx ⟨⟨⟨v, g0, g1, g2⟩, g3, g4⟩, Bx, hBx, hbx, rfl⟩
    have hpl : pre.length + 1 ≤ 316 := by have := hpx.length_le; simp at this; omega
    have hc0 := g0.cell
    have hx0 : W.cell? ⟨Bx, 0, none⟩ = some (.int .i64 x.1) := by rw [blk_cell hbx]; rfl
    have hx1 : W.cell? ⟨Bx, 1, none⟩ = some (.int .i64 x.2) := by rw [blk_cell hbx]; rfl
    gi_wp2_with (gi_at_builtin; refine wpListIn_append_own _ rfl _ _ 35 rfl w.heap.size 145 i0 _ 2 16 Try.underlying35 hi hz0 hz1 hz2 rfl (by decide) _ _ _ rfl (g1.alloc _) ⟨W.heap.size, 0, none⟩ 1 1 [.int .i64 x.1, .int .i64 x.2] rfl rfl (cells_two_new _ _ _ _) (by simp [Value.oneCell']) (by unfold maxLen; omega) (by omega) (by have := g4.size; simp; omega) ?_; intro v' w2 hown' hgrow _; obtain ⟨g', cap', rfl, hv1⟩ := boxed_app g0 (by decide) g1 _ hown' hgrow; have hcv := hv1.cell; have hfv := hv1.frozen)
    have T2 : Turn (w.heap.size :: v.ownBlock.toList) W (w2.setCell ⟨w.heap.size, 0, none⟩ (.slice (some ⟨g', 0, none⟩) (pre.length + 1) cap')) :=
      (Turn.of_ext ((Ext.refl W).alloc' (.cells #[.int .i64 x.1, .int .i64 x.2] 145))).seq ((turn_grownO hgrow (fun k e => by have e' : v.ownBlock = some k := e; simp [e'])).seq (turn_set (by simp)))
    have hge : ∀ y ∈ w.heap.size :: v.ownBlock.toList, w.heap.size ≤ y := by
      intro y hy
      simp only [List.mem_cons, Option.mem_toList] at hy
      rcases hy with rfl | hy
      · exact Nat.le_refl _
      · exact (g1.lt y hy).1
    refine ⟨T2.keeps ?_, ⟨_, hv1.set _, ?_, by simp⟩, g3.turn T2 (fun y hy hm => ?_), Below.trans g4 (T2.below (B := w.heap.size) hge g4.size)⟩
    · intro y hy o ho
      simp only [List.mem_cons, Option.mem_toList] at hy
      rcases hy with rfl | hy
      · rw [show W.heap[w.heap.size]? = _ from g0] at ho
        cases ho
        rfl
      · exact own_cells g1 y hy o ho
    · rw [List.length_append, List.length_singleton, evCells_snoc]
      exact ownsRow_setCell_other hown' (fun e => Boxed.not_row hv1 (by decide) hown' (by rw [e])) _
    · have := hFlt y hy
      have := hge y hm
      omega
  case done =>
    rintro D W hD ⟨⟨v, g0, g1, g2⟩, g3, g4⟩ hK
    have hc1 := g0.cell
    gi_wp2
    refine ⟨by simp, .inl ⟨_, _, rfl, run_takeDeferred hK, ?_⟩⟩
    exact ⟨_, results_tmp rfl _ _ _, v, rfl, ownsRow_putObj g1 _ hK rfl, g2, ext_book g4 (Nat.le_refl _) (Book.put _ (by omega) hK rfl)⟩
end Go.Proofs.Ytoipadeeochbnaa
