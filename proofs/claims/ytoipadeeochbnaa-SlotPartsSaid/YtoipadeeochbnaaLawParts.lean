import Derived.Test.YtoipadeeochbnaaKnown14
namespace Go.Proofs.Ytoipadeeochbnaa
open Go.RowKit Mix
theorem parts_cells {m : Int} {w w1 : World} {e : Ending} (h : PartsPost m w e w1) (u : Int) (h0 : (partsL m)[0]? = some u) :
    ∃ g cap, e = .returned (.slice (some ⟨g, 0, none⟩) (nP m) cap) ∧ g < w1.heap.size ∧ (∀ i u, (partsL m)[i]? = some u → w1.cell? ⟨g, i, none⟩ = some (.int .i64 u)) ∧ Ext w w1 := by
  obtain ⟨a, cap, he, hc, hE⟩ := h
  obtain ⟨g, rfl, h1⟩ := hc 0 u h0
  refine ⟨g, cap, he, World.block_lt_of_cell? w1 _ h1, fun i u hi => ?_, hE⟩
  obtain ⟨g', e, hh⟩ := hc i u hi
  cases e
  exact hh
set_option maxHeartbeats 1000000 in
set_option maxRecDepth 100000 in
theorem SlotParts0 (a : Int) (h0 : 0 ≤ a) (h1 : a ≤ 255) (hr : a % 4 = 0) (w : World) : Calls Try.prog 7 #[.int .u8 a] w fun e w' => e = .returned (.bool true) ∧ Ext w w' := by
  have n0 : nP 0 = 0 := rfl
  have n5 : nP 5 = 0 := rfl
  have nm : nP 1 = 1 := rfl
  go_enter Try.func7, Try.ntmps7
  go_wp2_with fail
  refine (Parts_any 1 _).mono ?_
  intro e w1 h
  obtain ⟨g, cap, he, hg, hc, hE⟩ := parts_cells h 0 rfl
  clear h
  subst he
  have hc1 := hE.cells (w.heap.size + 0) (by first | omega | (simp; done) | (simp; omega)); have hf1 := hE.marks (w.heap.size + 0) (by first | omega | (simp; done) | (simp; omega)); have hs1 := hE.sizes (w.heap.size + 0) (by first | omega | (simp; done) | (simp; omega)); have hg1 := hE.rules.1; have hh1 := hE.rules.2; skip
  have c0 := hc 0 0 rfl
  clear hc
  go_wp2_with fail
  refine wp_loop_rounds 11 ?_
  iterate 11 (try (rw [rounds_succ]; go_wp2_with (first | (go_at_call 41; refine (known14_any _).mono ?_; intro e w1 h; have he := h.1; have hE := h.2; clear h; subst he; have hc1 := hE.cells (w.heap.size + 0) (by first | omega | (simp; done) | (simp; omega)); have hf1 := hE.marks (w.heap.size + 0) (by first | omega | (simp; done) | (simp; omega)); have hs1 := hE.sizes (w.heap.size + 0) (by first | omega | (simp; done) | (simp; omega)); have hg1 := hE.rules.1; have hh1 := hE.rules.2; skip) | (go_at_call 48; refine (Parts_any _ _).mono ?_; rintro e w3 ⟨a, cap, rfl, hcc, hE3⟩; clear hcc; have hc3 := hE3.cells (w.heap.size + 0) (by first | omega | (simp; done) | (simp; omega)); have hf3 := hE3.marks (w.heap.size + 0) (by first | omega | (simp; done) | (simp; omega)); have hs3 := hE3.sizes (w.heap.size + 0) (by first | omega | (simp; done) | (simp; omega)); have hg3 := hE3.rules.1; have hh3 := hE3.rules.2; skip))))
  go_ret
  exact ⟨rfl, by (repeat' (first | exact Ext.refl _ | assumption | refine Ext.alloc' ?_ _ | (refine Ext.set' ?_ (by first | omega | (simp; done) | (simp; omega)) _) | refine Ext.drew' ?_ | refine Ext.drewN' ?_ _ | refine Ext.trans ?_ (by assumption)))⟩
set_option maxHeartbeats 1000000 in
set_option maxRecDepth 100000 in
theorem SlotParts1 (a : Int) (h0 : 0 ≤ a) (h1 : a ≤ 255) (hr : a % 4 = 1) (w : World) : Calls Try.prog 7 #[.int .u8 a] w fun e w' => e = .returned (.bool true) ∧ Ext w w' := by
  have n0 : nP 0 = 0 := rfl
  have n5 : nP 5 = 0 := rfl
  have nm : nP 2 = 3 := rfl
  go_enter Try.func7, Try.ntmps7
  go_wp2_with fail
  refine (Parts_any 2 _).mono ?_
  intro e w1 h
  obtain ⟨g, cap, he, hg, hc, hE⟩ := parts_cells h 0 rfl
  clear h
  subst he
  have hc1 := hE.cells (w.heap.size + 0) (by first | omega | (simp; done) | (simp; omega)); have hf1 := hE.marks (w.heap.size + 0) (by first | omega | (simp; done) | (simp; omega)); have hs1 := hE.sizes (w.heap.size + 0) (by first | omega | (simp; done) | (simp; omega)); have hg1 := hE.rules.1; have hh1 := hE.rules.2; skip
  (have c0 := hc 0 0 rfl; have c1 := hc 1 1 rfl; have c2 := hc 2 2 rfl)
  clear hc
  go_wp2_with fail
  refine wp_loop_rounds 31 ?_
  iterate 31 (try (rw [rounds_succ]; go_wp2_with (first | (go_at_call 41; refine (known14_any _).mono ?_; intro e w1 h; have he := h.1; have hE := h.2; clear h; subst he; have hc1 := hE.cells (w.heap.size + 0) (by first | omega | (simp; done) | (simp; omega)); have hf1 := hE.marks (w.heap.size + 0) (by first | omega | (simp; done) | (simp; omega)); have hs1 := hE.sizes (w.heap.size + 0) (by first | omega | (simp; done) | (simp; omega)); have hg1 := hE.rules.1; have hh1 := hE.rules.2; skip) | (go_at_call 48; refine (Parts_any _ _).mono ?_; rintro e w3 ⟨a, cap, rfl, hcc, hE3⟩; clear hcc; have hc3 := hE3.cells (w.heap.size + 0) (by first | omega | (simp; done) | (simp; omega)); have hf3 := hE3.marks (w.heap.size + 0) (by first | omega | (simp; done) | (simp; omega)); have hs3 := hE3.sizes (w.heap.size + 0) (by first | omega | (simp; done) | (simp; omega)); have hg3 := hE3.rules.1; have hh3 := hE3.rules.2; skip))))
  go_ret
  exact ⟨rfl, by (repeat' (first | exact Ext.refl _ | assumption | refine Ext.alloc' ?_ _ | (refine Ext.set' ?_ (by first | omega | (simp; done) | (simp; omega)) _) | refine Ext.drew' ?_ | refine Ext.drewN' ?_ _ | refine Ext.trans ?_ (by assumption)))⟩
set_option maxHeartbeats 1000000 in
set_option maxRecDepth 100000 in
theorem SlotParts2 (a : Int) (h0 : 0 ≤ a) (h1 : a ≤ 255) (hr : a % 4 = 2) (w : World) : Calls Try.prog 7 #[.int .u8 a] w fun e w' => e = .returned (.bool true) ∧ Ext w w' := by
  have n0 : nP 0 = 0 := rfl
  have n5 : nP 5 = 0 := rfl
  have nm : nP 3 = 4 := rfl
  go_enter Try.func7, Try.ntmps7
  go_wp2_with fail
  refine (Parts_any 3 _).mono ?_
  intro e w1 h
  obtain ⟨g, cap, he, hg, hc, hE⟩ := parts_cells h 0 rfl
  clear h
  subst he
  have hc1 := hE.cells (w.heap.size + 0) (by first | omega | (simp; done) | (simp; omega)); have hf1 := hE.marks (w.heap.size + 0) (by first | omega | (simp; done) | (simp; omega)); have hs1 := hE.sizes (w.heap.size + 0) (by first | omega | (simp; done) | (simp; omega)); have hg1 := hE.rules.1; have hh1 := hE.rules.2; skip
  (have c0 := hc 0 0 rfl; have c1 := hc 1 0 rfl; have c2 := hc 2 1 rfl; have c3 := hc 3 2 rfl)
  clear hc
  go_wp2_with fail
  refine wp_loop_rounds 41 ?_
  iterate 41 (try (rw [rounds_succ]; go_wp2_with (first | (go_at_call 41; refine (known14_any _).mono ?_; intro e w1 h; have he := h.1; have hE := h.2; clear h; subst he; have hc1 := hE.cells (w.heap.size + 0) (by first | omega | (simp; done) | (simp; omega)); have hf1 := hE.marks (w.heap.size + 0) (by first | omega | (simp; done) | (simp; omega)); have hs1 := hE.sizes (w.heap.size + 0) (by first | omega | (simp; done) | (simp; omega)); have hg1 := hE.rules.1; have hh1 := hE.rules.2; skip) | (go_at_call 48; refine (Parts_any _ _).mono ?_; rintro e w3 ⟨a, cap, rfl, hcc, hE3⟩; clear hcc; have hc3 := hE3.cells (w.heap.size + 0) (by first | omega | (simp; done) | (simp; omega)); have hf3 := hE3.marks (w.heap.size + 0) (by first | omega | (simp; done) | (simp; omega)); have hs3 := hE3.sizes (w.heap.size + 0) (by first | omega | (simp; done) | (simp; omega)); have hg3 := hE3.rules.1; have hh3 := hE3.rules.2; skip))))
  go_ret
  exact ⟨rfl, by (repeat' (first | exact Ext.refl _ | assumption | refine Ext.alloc' ?_ _ | (refine Ext.set' ?_ (by first | omega | (simp; done) | (simp; omega)) _) | refine Ext.drew' ?_ | refine Ext.drewN' ?_ _ | refine Ext.trans ?_ (by assumption)))⟩
set_option maxHeartbeats 1000000 in
set_option maxRecDepth 100000 in
theorem SlotParts3 (a : Int) (h0 : 0 ≤ a) (h1 : a ≤ 255) (hr : a % 4 = 3) (w : World) : Calls Try.prog 7 #[.int .u8 a] w fun e w' => e = .returned (.bool true) ∧ Ext w w' := by
  have n0 : nP 0 = 0 := rfl
  have n5 : nP 5 = 0 := rfl
  have nm : nP 4 = 6 := rfl
  go_enter Try.func7, Try.ntmps7
  go_wp2_with fail
  refine (Parts_any 4 _).mono ?_
  intro e w1 h
  obtain ⟨g, cap, he, hg, hc, hE⟩ := parts_cells h 0 rfl
  clear h
  subst he
  have hc1 := hE.cells (w.heap.size + 0) (by first | omega | (simp; done) | (simp; omega)); have hf1 := hE.marks (w.heap.size + 0) (by first | omega | (simp; done) | (simp; omega)); have hs1 := hE.sizes (w.heap.size + 0) (by first | omega | (simp; done) | (simp; omega)); have hg1 := hE.rules.1; have hh1 := hE.rules.2; skip
  (have c0 := hc 0 0 rfl; have c1 := hc 1 0 rfl; have c2 := hc 2 0 rfl; have c3 := hc 3 0 rfl; have c4 := hc 4 1 rfl; have c5 := hc 5 2 rfl)
  clear hc
  go_wp2_with fail
  refine wp_loop_rounds 61 ?_
  iterate 61 (try (rw [rounds_succ]; go_wp2_with (first | (go_at_call 41; refine (known14_any _).mono ?_; intro e w1 h; have he := h.1; have hE := h.2; clear h; subst he; have hc1 := hE.cells (w.heap.size + 0) (by first | omega | (simp; done) | (simp; omega)); have hf1 := hE.marks (w.heap.size + 0) (by first | omega | (simp; done) | (simp; omega)); have hs1 := hE.sizes (w.heap.size + 0) (by first | omega | (simp; done) | (simp; omega)); have hg1 := hE.rules.1; have hh1 := hE.rules.2; skip) | (go_at_call 48; refine (Parts_any _ _).mono ?_; rintro e w3 ⟨a, cap, rfl, hcc, hE3⟩; clear hcc; have hc3 := hE3.cells (w.heap.size + 0) (by first | omega | (simp; done) | (simp; omega)); have hf3 := hE3.marks (w.heap.size + 0) (by first | omega | (simp; done) | (simp; omega)); have hs3 := hE3.sizes (w.heap.size + 0) (by first | omega | (simp; done) | (simp; omega)); have hg3 := hE3.rules.1; have hh3 := hE3.rules.2; skip))))
  go_ret
  exact ⟨rfl, by (repeat' (first | exact Ext.refl _ | assumption | refine Ext.alloc' ?_ _ | (refine Ext.set' ?_ (by first | omega | (simp; done) | (simp; omega)) _) | refine Ext.drew' ?_ | refine Ext.drewN' ?_ _ | refine Ext.trans ?_ (by assumption)))⟩
theorem SlotParts_walk (a : Int) (h0 : 0 ≤ a) (h1 : a ≤ 255) (w : World) : Calls Try.prog 7 #[.int .u8 a] w fun e w' => e = .returned (.bool true) ∧ Ext w w' := by
  by_cases r0 : a % 4 = 0
  · exact SlotParts0 a h0 h1 r0 w
  by_cases r1 : a % 4 = 1
  · exact SlotParts1 a h0 h1 r1 w
  by_cases r2 : a % 4 = 2
  · exact SlotParts2 a h0 h1 r2 w
  exact SlotParts3 a h0 h1 (by omega) w
end Go.Proofs.Ytoipadeeochbnaa
