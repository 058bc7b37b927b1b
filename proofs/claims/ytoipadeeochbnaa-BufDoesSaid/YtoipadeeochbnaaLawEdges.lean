import Derived.Test.YtoipadeeochbnaaBuf3
import Derived.Test.YtoipadeeochbnaaLawOpens
namespace Go.Proofs.Ytoipadeeochbnaa
open Go.RowKit Mix
set_option linter.unusedVariables false
attribute [local go_sem] Mix.calm Oper.quietUpon
theorem NewB.bf {w0 : Nat} {p : Option Nat} {xs : List Int} {es : List (Int × Int)} {Fr : List Nat} {w w' : World} {e : Ending} (h : NewB p xs es Fr w e w') (hF : ∀ x ∈ Fr, w0 ≤ x) (hw : w0 ≤ w.heap.size) :
    ∃ b F, e = .returned (.pointer (some ⟨b, 0, none⟩)) ∧ Bf w' b p xs es F ∧ w.heap.size ≤ b ∧ (∀ x ∈ F, w0 ≤ x) ∧ Ext w w' := by
  obtain ⟨v, b, rfl, h1, h2, h3, h4⟩ := h
  refine ⟨b, _, rfl, ⟨v, Fr, h1, rfl⟩, h2, fun x hx => ?_, h4⟩
  simp only [bfoot, List.mem_cons, List.mem_append] at hx
  rcases hx with rfl | hx | hx
  · omega
  · have := h3 x hx; omega
  · exact hF x hx
/-- The blocks stay at or beyond a number. -/
theorem ge_step {F F' : List Nat} {n m : Nat} (hF : ∀ x ∈ F', x ∈ F ∨ n ≤ x) (hg : ∀ x ∈ F, m ≤ x) (hm : m ≤ n) : ∀ x ∈ F', m ≤ x := fun x hx => by
  rcases hF x hx with h | h
  · exact hg x h
  · omega
set_option maxHeartbeats 1000000 in
set_option maxRecDepth 100000 in
theorem known04_any (w : World) : Calls Try.prog 32 #[] w fun e w' => e = .returned (.bool true) ∧ Ext w w' := by
  go_enter Try.func32, Try.ntmps32
  go_wp2_with fail
  refine (New_rc w).mono ?_
  rintro e w1 ⟨rfl, hR1, hE1⟩
  go_wp2_with fail
  refine (New_bf (some w.heap.size) [] [w.heap.size] 2 (by omega) w1 hR1).mono ?_
  intro e w2 hN
  obtain ⟨b, F, rfl, hB2, hb, hF, hE2⟩ := hN.bf (w0 := w.heap.size) (by simp) hE1.size
  clear hN
  go_wp2_with fail
  refine (of_any 7 w2).mono ?_
  rintro e w3 ⟨rfl, hE3⟩
  go_wp2_with fail
  refine (Set_in b (some w.heap.size) [0, 0] [] F 1 7 w3 (hB2.ext hE3) (by simp) (by simp) (.inr (by simp))).mono ?_
  rintro e w4 ⟨rfl, F4, hB4, hT4, hF4⟩
  have hg4 := ge_step hF4 hF (Nat.le_trans hE1.size (Nat.le_trans hE2.size hE3.size))
  have hE4 : Ext w w4 := Below.trans (hE1.trans (hE2.trans hE3)) (hT4.below (B := w.heap.size) hF (Nat.le_trans hE1.size (Nat.le_trans hE2.size hE3.size)))
  go_wp2_with fail
  refine (Get_in b (some w.heap.size) [0, 7] [(1, 1)] F4 1 7 w4 hB4 rfl (by simp) (.inr (by simp))).mono ?_
  rintro e w5 ⟨rfl, F5, hB5, hT5, hF5⟩
  have hE5 : Ext w w5 := Below.trans hE4 (hT5.below (B := w.heap.size) hg4 hE4.size)
  go_wp2_with fail
  have hB6 := hB5.ext ((Ext.refl w5).alloc' (.cells #[.int .i64 7] 25))
  obtain ⟨Fr, hR6, _⟩ := hB6.rc
  refine (Events_rc w.heap.size [(1, 1), (1, 1)] Fr _ hR6 (by simp)).mono ?_
  rintro e w7 ⟨v, rfl, hrow, _, hE7⟩
  obtain ⟨g, cp, rfl⟩ := ownsRow_form hrow (by simp)
  have hB7 := hB6.ext hE7
  obtain ⟨vb, Frb, hA7, _⟩ := hB7
  have c1 : w7.cell? ⟨g, 1, none⟩ = some (.int .i64 1) := (hrow.cellAt 1 (by simp)).trans rfl
  have c2 : w7.cell? ⟨g, 2, none⟩ = some (.int .i64 1) := (hrow.cellAt 2 (by simp)).trans rfl
  have c3 : w7.cell? ⟨w5.heap.size, 0, none⟩ = some (.int .i64 7) := hE7.cell (by simp)
  have hE17 : Ext w w7 := hE5.trans (((Ext.refl w5).alloc' _).trans hE7)
  have hsz : w5.heap.size < w7.heap.size := by have := hE7.size; simp at this; omega
  clear hrow
  go_wp2_with fail
  refine (Len_bf b _ _ _ _ _ w7 hA7).mono ?_
  rintro e w8 ⟨rfl, rfl⟩
  go_wp2_with fail
  refine (OpenNil_any 7 w7).mono ?_
  rintro e w8 ⟨rfl, hE8⟩
  have c1' := hE8.cell c1
  have c2' := hE8.cell c2
  go_wp2
  go_ret
  exact ⟨rfl, hE17.trans hE8⟩
set_option maxHeartbeats 1000000 in
set_option maxRecDepth 100000 in
theorem BufEdges_walk (n i v : Int) (hn : 0 ≤ n ∧ n ≤ 255) (w : World) : Calls Try.prog 4 #[.int .u8 n, .int .i64 i, .int .i64 v] w fun e w' => e = .returned (.bool true) ∧ Ext w w' := by
  obtain ⟨hn0, hn1⟩ := hn
  obtain ⟨m, hm⟩ : ∃ m : Nat, (m : Int) = n % 50 := ⟨(n % 50).toNat, by omega⟩
  have hm50 : m < 50 := by omega
  by_cases hi : 0 ≤ i ∧ i < n % 50
  · obtain ⟨hi0, hi1⟩ := hi
    have hm' := Lib.hid hm
    clear hm
    go_enter Try.func4, Try.ntmps4
    go_wp2_with fail
    refine (known04_any w).mono ?_
    rintro e w1 ⟨rfl, hE1⟩
    go_wp2
    go_ret
    exact ⟨rfl, hE1⟩
  · have hd : decide (0 ≤ i) = true → decide (i < n % 50) = false := by simp; omega
    have hnp : ¬ isPlace i (List.replicate m 0 : List Int).length := by
      unfold isPlace
      rw [List.length_replicate]
      omega
    have key : ∀ w, Calls Try.prog 33 #[ptr (some w.heap.size), .int .i64 (n % 50)] w = Calls Try.prog 33 #[ptr (some w.heap.size), .int .i64 (m : Int)] w := fun w => by rw [hm]
    have hm' := Lib.hid hm
    clear hm key
    by_cases h0 : 0 ≤ i
    · have h1 : n % 50 ≤ i := by omega
      clear hi hd
      go_enter Try.func4, Try.ntmps4
      go_wp2_with fail
      refine (New_rc w).mono ?_
      rintro e w1 ⟨rfl, hR1, hE1⟩
      go_wp2_with fail
      have mN := New_bf (some w.heap.size) [] [w.heap.size] m (by omega) w1 hR1
      rw [hm'.out] at mN
      refine mN.mono ?_
      intro e w2 hN
      obtain ⟨b, F, rfl, hB2, hb, hF, hE2⟩ := hN.bf (w0 := w.heap.size) (by simp) hE1.size
      clear hN mN
      obtain ⟨vb, Frb, hA2, _⟩ := hB2
      go_wp2_with fail
      refine (of_any v w2).mono ?_
      rintro e w3 ⟨rfl, hE3⟩
      have hA3 := hA2.turn (Turn.of_ext hE3) (G := []) (by simp)
      go_wp2_with fail
      refine (Set_out b _ _ _ _ _ i v w3 hA3 hnp).mono ?_
      rintro e w4 ⟨rfl, hE4⟩
      have hA4 := hA3.turn (Turn.of_ext hE4) (G := []) (by simp)
      go_wp2_with fail
      refine (Get_out b _ _ _ _ _ i w4 hA4 hnp).mono ?_
      rintro e w5 ⟨rfl, hE5⟩
      have hA5 := hA4.turn (Turn.of_ext hE5) (G := []) (by simp)
      go_wp2_with fail
      refine (known04_any _).mono ?_
      rintro e w6 ⟨rfl, hE6⟩
      have c3 : w6.cell? ⟨w5.heap.size, 0, none⟩ = some (.int .i64 0) := hE6.cell (by simp)
      have hA6 := hA5.turn (Turn.of_ext (((Ext.refl w5).alloc' _).trans hE6)) (G := []) (by simp)
      go_wp2_with fail
      refine (OpenNil_any 0 w6).mono ?_
      rintro e w7 ⟨rfl, hE7⟩
      have hA7 := hA6.turn (Turn.of_ext hE7) (G := []) (by simp)
      go_wp2_with fail
      refine (Events_rc w.heap.size [] _ _ hA7.rc (by simp)).mono ?_
      rintro e w8 ⟨ve, rfl, hrow, hnil, hE8⟩
      obtain rfl := hnil rfl
      clear hrow hnil
      have hA8 := hA7.turn (Turn.of_ext hE8) (G := []) (by simp)
      go_wp2_with fail
      refine (Len_bf b _ _ _ _ _ w8 hA8).mono ?_
      rw [List.length_replicate, hm'.out]
      rintro e w9 ⟨rfl, rfl⟩
      go_wp2
      go_ret
      exact ⟨rfl, ((((hE1.trans hE2).trans hE3).trans hE4).trans hE5).trans ((((Ext.refl w5).alloc' _).trans hE6).trans (hE7.trans hE8))⟩
    · clear hi hd
      go_enter Try.func4, Try.ntmps4
      go_wp2_with fail
      refine (New_rc w).mono ?_
      rintro e w1 ⟨rfl, hR1, hE1⟩
      go_wp2_with fail
      have mN := New_bf (some w.heap.size) [] [w.heap.size] m (by omega) w1 hR1
      rw [hm'.out] at mN
      refine mN.mono ?_
      intro e w2 hN
      obtain ⟨b, F, rfl, hB2, hb, hF, hE2⟩ := hN.bf (w0 := w.heap.size) (by simp) hE1.size
      clear hN mN
      obtain ⟨vb, Frb, hA2, _⟩ := hB2
      go_wp2_with fail
      refine (of_any v w2).mono ?_
      rintro e w3 ⟨rfl, hE3⟩
      have hA3 := hA2.turn (Turn.of_ext hE3) (G := []) (by simp)
      go_wp2_with fail
      refine (Set_out b _ _ _ _ _ i v w3 hA3 hnp).mono ?_
      rintro e w4 ⟨rfl, hE4⟩
      have hA4 := hA3.turn (Turn.of_ext hE4) (G := []) (by simp)
      go_wp2_with fail
      refine (Get_out b _ _ _ _ _ i w4 hA4 hnp).mono ?_
      rintro e w5 ⟨rfl, hE5⟩
      have hA5 := hA4.turn (Turn.of_ext hE5) (G := []) (by simp)
      go_wp2_with fail
      refine (known04_any _).mono ?_
      rintro e w6 ⟨rfl, hE6⟩
      have c3 : w6.cell? ⟨w5.heap.size, 0, none⟩ = some (.int .i64 0) := hE6.cell (by simp)
      have hA6 := hA5.turn (Turn.of_ext (((Ext.refl w5).alloc' _).trans hE6)) (G := []) (by simp)
      go_wp2_with fail
      refine (OpenNil_any 0 w6).mono ?_
      rintro e w7 ⟨rfl, hE7⟩
      have hA7 := hA6.turn (Turn.of_ext hE7) (G := []) (by simp)
      go_wp2_with fail
      refine (Events_rc w.heap.size [] _ _ hA7.rc (by simp)).mono ?_
      rintro e w8 ⟨ve, rfl, hrow, hnil, hE8⟩
      obtain rfl := hnil rfl
      clear hrow hnil
      have hA8 := hA7.turn (Turn.of_ext hE8) (G := []) (by simp)
      go_wp2_with fail
      refine (Len_bf b _ _ _ _ _ w8 hA8).mono ?_
      rw [List.length_replicate, hm'.out]
      rintro e w9 ⟨rfl, rfl⟩
      go_wp2
      go_ret
      exact ⟨rfl, ((((hE1.trans hE2).trans hE3).trans hE4).trans hE5).trans ((((Ext.refl w5).alloc' _).trans hE6).trans (hE7.trans hE8))⟩
end Go.Proofs.Ytoipadeeochbnaa
