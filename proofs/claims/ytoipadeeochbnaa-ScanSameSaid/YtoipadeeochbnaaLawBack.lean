import Derived.Test.YtoipadeeochbnaaKnown05
import Derived.Test.YtoipadeeochbnaaBack
namespace Go.Proofs.Ytoipadeeochbnaa
open Go.RowKit Mix
set_option linter.unusedVariables false
attribute [local go_sem] Mix.calm Oper.quietUpon
theorem putV_in {xs : List Int} {a s : Int} {N : Nat} {lo hi : Int} (hx : ∀ x ∈ xs, In64 x) (h0 : 0 ≤ lo) (h1 : hi ≤ xs.length) (h2 : lo ≤ xs.length) : ∀ x ∈ putV xs a s N lo hi, In64 x := by
  refine in_of_getV fun k => ?_
  unfold putV
  rw [layV_eq _ _ _ _ h0 h1 h2]
  have hk : ∀ (i x : Int) (n : Nat), In64 x → In64 (putK a s N i x n) := fun i x n h => by
    cases n with
    | zero => exact h
    | succ n => exact in64_bor _ _
  split
  · exact hk _ _ _ (getV_in hx _)
  · exact getV_in hx _
set_option maxRecDepth 100000 in
set_option maxHeartbeats 2000000 in
theorem ScanBack_walk (a s n : Int) (ha : 0 ≤ a ∧ a ≤ 255) (hs : In64 s) (hn : 0 ≤ n ∧ n ≤ 255) (w : World) :
    Calls Try.prog 19 #[.int .u8 a, .int .i64 s, .int .u8 n] w fun e w' => e = .returned (.bool true) ∧ Ext w w' := by
  obtain ⟨ha0, ha1⟩ := ha
  obtain ⟨hn0, hn1⟩ := hn
  obtain ⟨A, hA⟩ : ∃ A : Nat, a % 50 = (A : Int) := ⟨(a % 50).toNat, by omega⟩
  obtain ⟨N, hN⟩ : ∃ N : Nat, n % 8 = (N : Int) := ⟨(n % 8).toNat, by omega⟩
  have hA50 : A < 50 := by omega
  have hN8 : N ≤ 7 := by omega
  have hc : (clipI (N : Int) 0 8).toNat = N := by unfold clipI; split <;> (try split) <;> omega
  have hx0 : ∀ x ∈ List.replicate 60 (0 : Int), In64 x := fun x hx => by rw [(List.mem_replicate.1 hx).2]; simp [In64]
  have hx0' := Lib.hid hx0
  clear hx0
  have hAI : In64 (A : Int) := by unfold In64; omega
  go_enter Try.func19, Try.ntmps19
  go_wp2_with fail
  refine (New_bf none [] [] 60 (by omega) w rfl).mono ?_
  rintro e w2 ⟨v2, b, rfl, hB2, hb2, hv2, hE2⟩
  have hgF : ∀ x ∈ bfoot b v2 [], w.heap.size ≤ x := fun x hx => by
    simp only [bfoot, List.mem_cons, List.mem_append, List.not_mem_nil, or_false] at hx
    rcases hx with h | h
    · omega
    · have := hv2 x h; omega
  have hB2' : Bf w2 b none (List.replicate 60 0) [] _ := ⟨v2, _, hB2, rfl⟩
  generalize bfoot b v2 [] = F2 at *
  clear hB2 hv2 hb2
  have hA' := Lib.hid hA
  have hN' := Lib.hid hN
  go_wp2_with fail
  refine (of_any (A : Int) _).mono ?_
  rintro e w3 ⟨rfl, hE3⟩
  go_wp2_with fail
  refine (of_any s _).mono ?_
  rintro e w4 ⟨rfl, hE4⟩
  have hE04 := (hE2.trans hE3).trans hE4
  go_wp2_with fail
  have hxl : (List.replicate 60 (0 : Int)).length = 60 := List.length_replicate ..
  have mP := Put_bf b none (List.replicate 60 0) [] F2 (A : Int) s (N : Int) 0 60 hAI hs hx0'.out (by omega) (.inl rfl) w4 ((hB2'.ext hE3).ext hE4)
  rw [hxl, show clipI 0 0 ((60 : Nat) : Int) = 0 from rfl, show clipI 60 0 ((60 : Nat) : Int) = 60 from rfl, hc] at mP
  refine mP.mono ?_
  clear mP
  rintro e w5 ⟨rfl, F5, hB5, hT5, hF5⟩
  have hE05 : Ext w w5 := Below.trans hE04 (hT5.below (B := w.heap.size) hgF hE04.size)
  have hgF5 : ∀ x ∈ F5, w.heap.size ≤ x := fun x hx => (hF5 x hx).elim (fun h => hgF x h) (fun h => Nat.le_trans hE04.size h)
  have hyl : (putV (List.replicate 60 0) A s N 0 60).length = 60 := (layV_len _ _ _ _).trans hxl
  have hyi : ∀ x ∈ putV (List.replicate 60 0) A s N 0 60, In64 x := putV_in hx0'.out (by omega) (by rw [hxl]; decide) (by omega)
  have hbl := back_law hs hN8 hA50
  generalize putV (List.replicate 60 0) A s N 0 60 = ys at *
  generalize ([] : List (Int × Int)) ++ winB 0 60 = es at *
  clear hT5 hF5 hE3 hE4 hE04 hB2' hgF hxl
  go_wp2_with fail
  refine (of_any (A : Int) _).mono ?_
  rintro e w6 ⟨rfl, hE6⟩
  have hE06 := hE05.trans hE6
  go_wp2_with fail
  have mT := Take_bf b none ys es F5 (A : Int) (N : Int) 0 60 hAI hyi (by omega) (.inl rfl) w6 (hB5.ext hE6)
  rw [hyl, show clipI 0 0 ((60 : Nat) : Int) = 0 from rfl, show clipI 60 0 ((60 : Nat) : Int) = 60 from rfl, hc, hbl] at mT
  refine mT.mono ?_
  clear mT
  rintro e w7 ⟨rfl, F7, hB7, hT7, hF7⟩
  have hE07 : Ext w w7 := Below.trans hE06 (hT7.below (B := w.heap.size) hgF5 hE06.size)
  have hE78 := (Ext.refl w7).alloc' (.cells #[.int .i64 (bits .and .i64 s (2 ^ (8 * N) - 1))] 25)
  have c8 : (w7.alloc (.cells #[.int .i64 (bits .and .i64 s (2 ^ (8 * N) - 1))] 25)).cell? ⟨w7.heap.size, 0, none⟩ = some (.int .i64 (bits .and .i64 s (2 ^ (8 * N) - 1))) := by rw [blk_cell (World.alloc_heap_new w7 _)]; rfl
  have hE08 := hE07.trans hE78
  clear hB7 hT7 hF7 hB5 hbl hyi
  go_wp2_with fail
  refine (known05_any _).mono ?_
  rintro e w9 ⟨rfl, hE9⟩
  have c9 := hE9.cell c8
  have hE09 := hE08.trans hE9
  clear c8
  go_wp2_with fail
  refine (OpenNil_any _ _).mono ?_
  rintro e w10 ⟨rfl, hE10⟩
  have hp1 : (2 : Int) ^ (8 * N) ≤ 72057594037927936 := by
    have := Nat.pow_le_pow_right (n := 2) (by omega) (show 8 * N ≤ 56 by omega)
    have e : (2 : Int) ^ (8 * N) = ((2 ^ (8 * N) : Nat) : Int) := by simp
    rw [e]
    omega
  have hp0 : (0 : Int) < 2 ^ (8 * N) := Int.pow_pos (by omega)
  have eM : wrap64 (wrap64 (2 ^ (8 * N)) - 1) = 2 ^ (8 * N) - 1 := by
    generalize (2 : Int) ^ (8 * N) = P at *
    rw [wrap_in (n := P) (by unfold In64; omega)]
    exact wrap_in (by unfold In64; omega)
  have eM' := Lib.hid eM
  clear eM hp0 hp1
  go_wp2
  simp only [eM'.out, beq_self_eq_true]
  go_ret
  exact ⟨rfl, hE09.trans hE10⟩
end Go.Proofs.Ytoipadeeochbnaa
