import Derived.Test.YtoipadeeochbnaaBuf1
namespace Go.Proofs.Ytoipadeeochbnaa
open Go.RowKit Mix
set_option linter.unusedVariables false
attribute [local go_sem] Mix.calm Oper.quietUpon
theorem turn_mono {F G : List Nat} {w w' : World} (h : Turn F w w') (hs : ∀ x ∈ F, x ∈ G) : Turn G w w' := ⟨h.os, h.tape, h.output, h.size, fun k hk hm => h.block k hk (fun h2 => hm (hs k h2))⟩
theorem bold {w w1 w' : World} {b : Nat} {p : Option Nat} {xs : List Int} {es : List (Int × Int)} {v : Value} {Fr Fr' : List Nat} (h0 : w.heap.size ≤ w1.heap.size) (h : BufAt w' b p xs es v Fr') (hF : ∀ x ∈ Fr', x ∈ Fr ∨ w1.heap.size ≤ x) :
    Bf w' b p xs es (bfoot b v Fr') ∧ ∀ x ∈ bfoot b v Fr', x ∈ bfoot b v Fr ∨ w.heap.size ≤ x := by
  refine ⟨⟨v, Fr', h, rfl⟩, fun x hx => ?_⟩
  simp only [bfoot, List.mem_cons, List.mem_append] at hx ⊢
  rcases hx with h | h | h
  · exact .inl (.inl h)
  · exact .inl (.inr (.inl h))
  · rcases hF x h with h1 | h1
    · exact .inl (.inr (.inr h1))
    · exact .inr (by omega)
theorem Get_in (b : Nat) (p : Option Nat) (xs : List Int) (es : List (Int × Int)) (F : List Nat) (k : Nat) (x : Int) (w : World) (h : Bf w b p xs es F) (hk : xs[k]? = some x) (hx : xs.length ≤ 1048576) (hl : p = none ∨ es.length < 316) :
    Calls Try.prog 35 #[.pointer (some ⟨b, 0, none⟩), .int .i64 (k : Int)] w (BTold (.agg #[.int .i64 x]) b p xs (es ++ [(1, (k : Int))]) F w) := by
  obtain ⟨v, Fr, hB, rfl⟩ := h
  have hkl := (List.getElem?_eq_some_iff.1 hk).1
  obtain ⟨g, cp, rfl⟩ := ownsRow_form hB.row (by omega)
  have hlt := fun y hy => (show Bf w b p xs es _ from ⟨_, _, hB, rfl⟩).lt y hy
  go_enter Try.func35, Try.ntmps35
  go_wp2_with fail
  have hE0 := (Ext.refl w).alloc' (.cells #[.int .i64 0] 25)
  refine (has_in b p xs es _ Fr k _ (hB.turn (Turn.of_ext hE0) (G := []) (by simp)) (show isPlace (k : Int) xs.length from ⟨by omega, by omega⟩) hx hl).mono ?_
  rintro e w1 ⟨rfl, Fr', hB1, hT, hF⟩
  have hn : w.heap.size ∉ Fr := fun hm => by have := hlt w.heap.size (by simp [bfoot, hm]); omega
  have c1 : w1.cell? ⟨b, 1, none⟩ = some (.slice (some ⟨g, 0, none⟩) xs.length cp) := by rw [blk_cell hB1.cell]; rfl
  have c2 : w1.cell? ⟨g, k, none⟩ = some (.int .i64 x) := by
    rw [hB1.row.cellAt k (by omega)]
    simp [hk]
  have c3 : w1.cell? ⟨w.heap.size, 0, none⟩ = some (.int .i64 0) := (hT.cell (by simp) hn).trans (by simp)
  have c4 : w1.frozen? ⟨w.heap.size, 0, none⟩ = false := (hT.frozen (by simp) hn).trans (blk_free (World.alloc_heap_new w _) 0)
  clear hk
  go_wp2
  refine bodyPost_ret (v := _) (by simp [results, Try.results35, go_sem, *]; rfl) rfl ?_
  have hT2 : Turn Fr w (w1.setCell ⟨w.heap.size, 0, none⟩ (.int .i64 x)) := ((Turn.of_ext hE0).seq hT).trans (turn_set (F := [w.heap.size]) (by simp)) (fun y hy => .inr (by simp at hy; omega))
  · have hB2 : BufAt (w1.setCell ⟨w.heap.size, 0, none⟩ (.int .i64 x)) b p xs (es ++ [(1, (k : Int))]) (.slice (some ⟨g, 0, none⟩) xs.length cp) Fr' := by
      refine hB1.turn (turn_set (F := [w.heap.size]) (by simp)) (fun y hy => ?_)
      simp only [List.mem_singleton]
      rintro rfl
      simp only [bfoot, List.mem_cons, List.mem_append] at hy
      rcases hy with hy | hy | hy
      · have := hlt b (by simp [bfoot]); omega
      · have := hlt _ (show w.heap.size ∈ bfoot b _ Fr from by simp only [bfoot, List.mem_cons, List.mem_append]; exact .inr (.inl hy)); omega
      · rcases hF _ hy with h1 | h1
        · exact hn h1
        · simp at h1; omega
    obtain ⟨h1, h2⟩ := bold (w := w) (by simp) hB2 hF
    exact ⟨rfl, _, h1, turn_mono hT2 (fun y hy => by simp [bfoot, hy]), h2⟩
theorem Set_in (b : Nat) (p : Option Nat) (xs : List Int) (es : List (Int × Int)) (F : List Nat) (k : Nat) (x : Int) (w : World) (h : Bf w b p xs es F) (hk : k < xs.length) (hx : xs.length ≤ 1048576) (hl : p = none ∨ es.length < 316) :
    Calls Try.prog 34 #[.pointer (some ⟨b, 0, none⟩), .int .i64 (k : Int), .agg #[.int .i64 x]] w (BTold (.tuple #[]) b p (xs.set k x) (es ++ [(1, (k : Int))]) F w) := by
  obtain ⟨v, Fr, hB, rfl⟩ := h
  obtain ⟨g, cp, rfl⟩ := ownsRow_form hB.row (by omega)
  obtain ⟨y, hy⟩ : ∃ y, xs[k]? = some y := ⟨_, List.getElem?_eq_getElem hk⟩
  have hlt := fun y hy => (show Bf w b p xs es _ from ⟨_, _, hB, rfl⟩).lt y hy
  go_enter Try.func34, Try.ntmps34
  go_wp2_with fail
  have hE0 := (Ext.refl w).alloc' (.cells #[.int .i64 x] 25)
  refine (has_in b p xs es _ Fr k _ (hB.turn (Turn.of_ext hE0) (G := []) (by simp)) (show isPlace (k : Int) xs.length from ⟨by omega, by omega⟩) hx hl).mono ?_
  rintro e w1 ⟨rfl, Fr', hB1, hT, hF⟩
  have hn : w.heap.size ∉ Fr := fun hm => by have := hlt w.heap.size (by simp [bfoot, hm]); omega
  have c1 : w1.cell? ⟨b, 1, none⟩ = some (.slice (some ⟨g, 0, none⟩) xs.length cp) := by rw [blk_cell hB1.cell]; rfl
  have c2 : w1.cell? ⟨g, k, none⟩ = some (.int .i64 y) := by
    rw [hB1.row.cellAt k (by omega)]
    simp [hy]
  have c3 : w1.cell? ⟨w.heap.size, 0, none⟩ = some (.int .i64 x) := (hT.cell (by simp) hn).trans (by simp)
  clear hy
  go_wp2
  refine Mix.wp_region_mixX 0 (.c 0 (.c 1 (.c 2 (.c 3 (.c 4 (.c 5 (.c 6 (.e 7 .done)))))))) (by kernel_rfl) (by kernel_rfl) (Nat.zero_le _) (fun hap hapf => ?_)
  have d1 : ∀ y, (ap w1 y).cell? ⟨b, 1, none⟩ = some (.slice (some ⟨g, 0, none⟩) xs.length cp) := fun y => (ap_ext w1 y).cell c1
  have d3 : ∀ y, (ap w1 y).cell? ⟨w.heap.size, 0, none⟩ = some (.int .i64 x) := fun y => (ap_ext w1 y).cell c3
  repeat (first | (refine Mix.mix_q rfl rfl rfl (fun K hK => ?_); (conv => arg 2; whnf); (first | (go_big_quiet_op; refine hK _ ?_) | (go_simp; refine hK _ ?_)); clear hK K) | (refine Mix.mix_nilK rfl rfl rfl rfl (fun K hK => ?_); (conv => arg 1; whnf); go_simp; refine hK _ ?_; clear hK K))
  refine Mix.mix_last rfl rfl (by kernel_rfl) (fun w2 hE2 K hK => ?_)
  (conv => arg 2; whnf)
  have hE12 : Ext w1 w2 := (Ext.refl w1).drew'.trans hE2
  have hB2 := hB1.turn (Turn.of_ext hE12) (G := []) (by simp)
  have c5 := hE12.cell c2
  have c6 := hB2.row.frozenAt k
  go_big_op
  refine hK _ _ (fun w3 hE3 => ?_)
  clear hK K
  have hap := hB2.apart
  have hgb : b ≠ g := fun e => hap.1 (by simp [Value.ownBlock, e])
  have hgr : g ∉ Fr' := hap.2 g (by simp [Value.ownBlock])
  have hS := hB2.row.stored k (.int .i64 x)
  have hB3 : BufAt (w2.setCell ⟨g, k, none⟩ (.int .i64 x)) b p (xs.set k x) (es ++ [(1, (k : Int))]) (.slice (some ⟨g, 0, none⟩) xs.length cp) Fr' := by
    refine ⟨(Below.heap_setCell _ _ _ _ hgb).trans hB2.cell, ?_, ?_, hB2.rc.turn (turn_set (F := [g]) (by simp)) (fun z hz => by simp; rintro rfl; exact hgr hz), hB2.apart⟩
    · rw [List.length_set, List.map_set]
      exact hS.1
    · intro h0
      have : (xs.set k x).length = 0 := by rw [h0]; rfl
      rw [List.length_set] at this
      omega
  have hB4 := hB3.turn (Turn.of_ext hE3) (G := []) (by simp)
  have hT2 : Turn (bfoot b (.slice (some ⟨g, 0, none⟩) xs.length cp) Fr) w w3 :=
    ((((Turn.of_ext hE0).seq (turn_mono hT (fun z hz => by simp [bfoot, hz]))).seq (Turn.of_ext hE12)).seq (turn_set (by simp [bfoot, Value.ownBlock]))).seq (Turn.of_ext hE3)
  obtain ⟨h1, h2⟩ := bold (w := w) (by simp) hB4 hF
  clear c1 c2 c3 c5 c6 d1 d3 hap hapf hS hB3 hB2
  go_end0
  exact ⟨rfl, _, h1, hT2, h2⟩
end Go.Proofs.Ytoipadeeochbnaa
