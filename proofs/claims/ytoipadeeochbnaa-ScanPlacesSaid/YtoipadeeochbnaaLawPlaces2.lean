import Derived.Test.YtoipadeeochbnaaLawPlaces
namespace Go.Proofs.Ytoipadeeochbnaa
open Go.RowKit Mix
set_option linter.unusedVariables false
attribute [local go_sem] Mix.calm Oper.quietUpon
set_option maxRecDepth 100000 in
theorem ScanPlaces_walk (ao : Option Addr) (cl : Nat) (l : List Int) (hc : ao = none → cl = 0) (hz : ∀ x ∈ l, In64 x) (a s f t k : Int) (ha : In64 a) (hs : In64 s) (hk : 0 ≤ k ∧ k ≤ 255) (w : World) (hA : ArgInts w .i64 ao l) :
    Calls Try.prog 14 #[.slice ao l.length cl, .int .i64 a, .int .i64 s, .int .i64 f, .int .i64 t, .int .u8 k] w fun e w' => e = .returned (.bool true) ∧ Ext w w' := by
  obtain ⟨hk0, hk1⟩ := hk
  by_cases hbig : 40 < l.length
  · have hd : decide ((40 : Int) < (l.length : Int)) = true := by simp; omega
    go_enter Try.func14, Try.ntmps14
    go_wp2_with fail
    refine (known05_any _).mono ?_
    rintro e w1 ⟨rfl, hE1⟩
    go_wp2
    go_ret
    exact ⟨rfl, hE1⟩
  have hd1 : decide ((40 : Int) < (l.length : Int)) = false := by simp; omega
  have hz' := Lib.hid hz
  have hA' := Lib.hid hA
  clear hz hA
  go_enter Try.func14, Try.ntmps14
  go_wp2_with fail
  refine (known05_any _).mono ?_
  rintro e w1 ⟨rfl, hE1⟩
  go_wp2_with fail
  refine (places_any ao cl l hc hz'.out (by omega) a s f t ha hs w1 (hA'.out.ext hE1)).mono ?_
  rintro e w2 ⟨rfl, hE2⟩
  have hE02 := hE1.trans hE2
  clear hE1 hE2
  go_wp2_with fail
  refine (places_any ao cl l hc hz'.out (by omega) (k % 12 - 1) s (k / 16 - 2) l.length (by unfold In64; omega) hs w2 (hA'.out.ext hE02)).mono ?_
  rintro e w3 ⟨rfl, hE3⟩
  have hE03 := hE02.trans hE3
  clear hE02 hE3
  go_wp2_with fail
  refine (places_any ao cl l hc hz'.out (by omega) (k % 12) s 0 (k / 8) (by unfold In64; omega) hs w3 (hA'.out.ext hE03)).mono ?_
  rintro e w4 ⟨rfl, hE4⟩
  go_wp2
  go_ret
  exact ⟨rfl, hE03.trans hE4⟩
end Go.Proofs.Ytoipadeeochbnaa
