import Derived.Test.YtoipadeeochbnaaDiv
namespace Go.Proofs.Ytoipadeeochbnaa
open Go.RowKit Mix
set_option linter.unusedVariables false
attribute [local go_sem] Mix.calm Oper.quietUpon
theorem refDiv_any (x d : Int) (h0 : 0 ≤ x) (h1 : x ≤ 65535) (d0 : 1 ≤ d) (d1 : d ≤ 65535) (w : World) :
    Calls Try.prog 75 #[.int .i64 x, .int .i64 d] w fun e w' => e = .returned (.int .i64 (x / d)) ∧ w = w' := by
  have hq : x / d ≤ x := Int.ediv_le_self _ h0
  have hq0 : 0 ≤ x / d := Int.ediv_nonneg h0 (by omega)
  go_enter Try.func75, Try.ntmps75
  go_wp2
  go_ret
  exact ⟨rfl, rfl⟩
def roundR (x d : Int) : Int := if x < 0 then -((-x + d / 2) / d) else (x + d / 2) / d
theorem refRound0_any (x d : Int) (h0 : 0 ≤ x) (h1 : x ≤ 32767) (d0 : 1 ≤ d) (d1 : d ≤ 255) (w : World) :
    Calls Try.prog 133 #[.int .i64 x, .int .i64 d] w fun e w' => e = .returned (.int .i64 ((x + d / 2) / d)) ∧ w = w' := by
  have hq : x / d ≤ x := Int.ediv_le_self _ h0
  have hq0 : 0 ≤ x / d := Int.ediv_nonneg h0 (by omega)
  have hm : x / d * d ≤ x := Int.ediv_mul_le x (by omega)
  have hm0 : 0 ≤ x / d * d := Int.mul_nonneg hq0 (by omega)
  have e := round_half x d h0 d0
  by_cases h : 2 * (x - x / d * d) ≥ d
  · rw [if_pos h] at e
    rw [e]
    clear e
    go_enter Try.func133, Try.ntmps133
    go_wp2
    go_ret
    exact ⟨rfl, rfl⟩
  · rw [if_neg h] at e
    rw [e]
    clear e
    go_enter Try.func133, Try.ntmps133
    go_wp2
    go_ret
    exact ⟨rfl, rfl⟩
theorem refRound1_any (x d : Int) (h0 : -32767 ≤ x) (h1 : x ≤ 32767) (d0 : 1 ≤ d) (d1 : d ≤ 255) (w : World) :
    Calls Try.prog 133 #[.int .i64 x, .int .i64 d] w fun e w' => e = .returned (.int .i64 (roundR x d)) ∧ w = w' := by
  by_cases h : x < 0
  · have hk0 : 0 ≤ (-x + d / 2) / d := Int.ediv_nonneg (by omega) (by omega)
    have hk1 : (-x + d / 2) / d ≤ -x + d / 2 := Int.ediv_le_self _ (by omega)
    have e : roundR x d = -((-x + d / 2) / d) := by unfold roundR; rw [if_pos h]
    rw [e]
    clear e
    have m := fun W => refRound0_any (-x) d (by omega) (by omega) d0 d1 W
    generalize (-x + d / 2) / d = k at *
    go_enter Try.func133, Try.ntmps133
    go_wp2_with fail
    refine (m _).mono ?_
    rintro e w2 ⟨rfl, rfl⟩
    clear m
    go_wp2
    go_ret
    exact ⟨rfl, rfl⟩
  · have e : roundR x d = (x + d / 2) / d := by unfold roundR; rw [if_neg h]
    rw [e]
    exact refRound0_any x d (by omega) h1 d0 d1 w
theorem refRound_any (x d : Int) (h0 : -32767 ≤ x) (h1 : x ≤ 32767) (d0 : 1 ≤ d) (d1 : d ≤ 255) (w : World) :
    Calls Try.prog 77 #[.int .i64 x, .int .i64 d] w fun e w' => e = .returned (.int .i64 (roundR x d)) ∧ w = w' := by
  go_enter Try.func77, Try.ntmps77
  go_wp2_with fail
  refine (refRound1_any x d h0 h1 d0 d1 _).mono ?_
  rintro e w2 ⟨rfl, rfl⟩
  go_wp2
  go_ret
  exact ⟨rfl, rfl⟩
set_option maxRecDepth 100000 in
theorem ScanDivides_walk (n d m q : Int) (hn : 0 ≤ n ∧ n ≤ 65535) (hd : 0 ≤ d ∧ d ≤ 65535) (hm : -32768 ≤ m ∧ m ≤ 32767) (hq : 0 ≤ q ∧ q ≤ 255) (w : World) :
    Calls Try.prog 17 #[.int .u16 n, .int .u16 d, .int .i16 m, .int .u8 q] w fun e w' => e = .returned (.bool true) ∧ Ext w w' := by
  obtain ⟨hn0, hn1⟩ := hn
  obtain ⟨hd0, hd1⟩ := hd
  obtain ⟨hm0, hm1⟩ := hm
  obtain ⟨hq0, hq1⟩ := hq
  obtain ⟨x, hx⟩ : ∃ x, (if d < 1 then 1 else d) = x := ⟨_, rfl⟩
  obtain ⟨y, hy⟩ : ∃ y, (if m < -32767 then -32767 else m) = y := ⟨_, rfl⟩
  obtain ⟨z, hz⟩ : ∃ z, (if q < 1 then 1 else q) = z := ⟨_, rfl⟩
  have bx : 1 ≤ x ∧ x ≤ 65535 := by rw [← hx]; split <;> omega
  have by' : -32767 ≤ y ∧ y ≤ 32767 := by rw [← hy]; split <;> omega
  have bz : 1 ≤ z ∧ z ≤ 255 := by rw [← hz]; split <;> omega
  go_enter Try.func17, Try.ntmps17
  go_wp2_with fail
  refine (known05_any _).mono ?_
  rintro e w1 ⟨rfl, hE1⟩
  go_wp2_with fail
  refine (of_any n _).mono ?_
  rintro e w2 ⟨rfl, hE2⟩
  go_wp2_with fail
  refine (Div_any n x hn0 hn1 bx.1 bx.2 _).mono ?_
  rintro e w3 ⟨rfl, hE3⟩
  go_wp2_with fail
  refine (OpenNil_any _ _).mono ?_
  rintro e w4 ⟨rfl, hE4⟩
  go_wp2_with fail
  refine (refDiv_any n x hn0 hn1 bx.1 bx.2 _).mono ?_
  rintro e w5 ⟨rfl, rfl⟩
  go_wp2_with fail
  refine (of_any y _).mono ?_
  rintro e w6 ⟨rfl, hE6⟩
  go_wp2_with fail
  refine (Round_any y z by'.1 by'.2 bz.1 bz.2 _).mono ?_
  rw [show (if y < 0 then -((-y + z / 2) / z) else (y + z / 2) / z) = roundR y z from rfl]
  rintro e w7 ⟨rfl, hE7⟩
  go_wp2_with fail
  refine (OpenNil_any _ _).mono ?_
  rintro e w8 ⟨rfl, hE8⟩
  go_wp2_with fail
  refine (refRound_any y z by'.1 by'.2 bz.1 bz.2 _).mono ?_
  rintro e w9 ⟨rfl, rfl⟩
  go_wp2
  go_ret
  exact ⟨rfl, (((((hE1.trans hE2).trans hE3).trans hE4).trans hE6).trans hE7).trans hE8⟩
end Go.Proofs.Ytoipadeeochbnaa
