import Derived.Test.YtoipadeeochbnaaScan4
import Derived.Test.YtoipadeeochbnaaLawEdges
namespace Go.Proofs.Ytoipadeeochbnaa
open Go.RowKit Mix
set_option linter.unusedVariables false
attribute [local go_sem] Mix.calm Oper.quietUpon
set_option maxHeartbeats 1000000 in
set_option maxRecDepth 100000 in
theorem known05_any (w : World) : Calls Try.prog 67 #[] w fun e w' => e = .returned (.bool true) ∧ Ext w w' := by
  go_enter Try.func67, Try.ntmps67
  go_wp2_with fail
  refine (New_rc w).mono ?_
  rintro e w1 ⟨rfl, hR1, hE1⟩
  go_wp2_with fail
  refine (of_any 5 w1).mono ?_
  rintro e w2 ⟨rfl, hE2⟩
  go_wp2_with fail
  refine (of_any 7 w2).mono ?_
  rintro e w3 ⟨rfl, hE3⟩
  go_wp2_with fail
  have hrow := World.ownsRow_lit (base := 0) (e := 25) (size := 1) w3 #[.int .i64 5, .int .i64 7] 2 (Nat.zero_le _) (by simp [maxLen]) rfl
  have hE13 : Ext w1 (w3.alloc (.cells #[.int .i64 5, .int .i64 7] 25)) := (hE2.trans hE3).alloc' _
  refine (Of_bf (some w.heap.size) [] [w.heap.size] _ [5, 7] _ (hR1.ext hE13) hrow (by simp) (by simp)).mono ?_
  intro e w4 hN
  obtain ⟨b, F, rfl, hB4, hb, hF, hE4⟩ := hN.bf (w0 := w.heap.size) (by simp) (by have := hE1.size; have := hE13.size; omega)
  clear hN hrow
  go_wp2_with fail
  refine (of_any 1 w4).mono ?_
  rintro e w5 ⟨rfl, hE5⟩
  go_wp2_with fail
  refine (Load_bf b (some w.heap.size) [5, 7] [] F 1 0 2 (by simp [In64]) (by simp [In64]) (by simp) (.inr (by simp)) w5 (hB4.ext hE5)).mono ?_
  rw [show loadV [5, 7] 1 (clipI 0 0 ([5, 7] : List Int).length) (clipI 2 0 ([5, 7] : List Int).length) = 7 from rfl, show ([] : List (Int × Int)) ++ winE (clipI 0 0 ([5, 7] : List Int).length) (clipI 2 0 ([5, 7] : List Int).length) = [(2, 2), (1, 0), (1, 1)] from rfl]
  rintro e w6 ⟨rfl, F6, hB6, hT6, hF6⟩
  have hE05 : Ext w w5 := ((hE1.trans hE13).trans hE4).trans hE5
  have hE06 : Ext w w6 := Mix.Ext.trans' hE05 hT6 hF
  go_wp2_with fail
  obtain ⟨Fr, hR7, _⟩ := (hB6.ext ((Ext.refl w6).alloc' (.cells #[.int .i64 7] 25))).rc
  refine (Events_rc w.heap.size [(2, 2), (1, 0), (1, 1)] Fr _ hR7 (by simp)).mono ?_
  rintro e w8 ⟨v, rfl, hrow, _, hE8⟩
  obtain ⟨g, cp, rfl⟩ := ownsRow_form hrow (by simp)
  have c1 : w8.cell? ⟨g, 0, none⟩ = some (.int .i64 2) := (hrow.cellAt 0 (by simp)).trans rfl
  have c2 : w8.cell? ⟨g, 1, none⟩ = some (.int .i64 2) := (hrow.cellAt 1 (by simp)).trans rfl
  have c3 : w8.cell? ⟨g, 5, none⟩ = some (.int .i64 1) := (hrow.cellAt 5 (by simp)).trans rfl
  have c4 : w8.cell? ⟨w6.heap.size, 0, none⟩ = some (.int .i64 7) := hE8.cell (by simp)
  have hE08 : Ext w w8 := hE06.trans (((Ext.refl w6).alloc' _).trans hE8)
  clear hrow hR7 hB6
  go_wp2_with fail
  refine (OpenNil_any 7 w8).mono ?_
  rintro e w9 ⟨rfl, hE9⟩
  have c1' := hE9.cell c1
  have c2' := hE9.cell c2
  have c3' := hE9.cell c3
  go_wp2
  go_ret
  exact ⟨rfl, hE08.trans hE9⟩
end Go.Proofs.Ytoipadeeochbnaa
