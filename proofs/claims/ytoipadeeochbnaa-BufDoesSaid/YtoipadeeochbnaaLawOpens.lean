import Derived.Test.YtoipadeeochbnaaSame
namespace Go.Proofs.Ytoipadeeochbnaa
open Go.RowKit Mix
set_option linter.unusedVariables false
attribute [local go_sem] Mix.calm Oper.quietUpon
set_option maxRecDepth 100000 in
theorem known03_any (w : World) : Calls Try.prog 29 #[] w fun e w' => e = .returned (.bool true) ∧ Ext w w' := by
  go_enter Try.func29, Try.ntmps29
  go_wp2_with fail
  refine (of_any 3 w).mono ?_
  rintro e w1 ⟨rfl, hE1⟩
  go_wp2_with fail
  refine (of_any 5 w1).mono ?_
  rintro e w2 ⟨rfl, hE2⟩
  go_wp2_with fail
  refine (Less_any 3 5 (by simp [In64]) (by simp [In64]) w2).mono ?_
  rintro e w3 ⟨rfl, hE3⟩
  have em : mk (decide ((3 : Int) < 5)) = -1 := rfl
  rw [em]
  go_wp2
  refine Mix.wp_region_mixX 0 (.c 0 (.c 1 (.c 2 (.c 3 (.c 4 (.c 5 (.c 6 (.c 7 (.c 8 (.c 9 (.c 10 (.c 11 .done)))))))))))) (by kernel_rfl) (by kernel_rfl) (Nat.zero_le _) (fun hap hapf => ?_)
  have hc : ∀ x, (ap (w3.alloc (.cells #[.int .i64 (-1)] 25)) x).cell? ⟨w3.heap.size, 0, none⟩ = some (.int .i64 (-1)) := fun x => (ap_ext _ x).cell (by simp)
  repeat (refine Mix.mix_q rfl rfl rfl (fun K hK => ?_); (conv => arg 2; whnf); (first | (go_big_quiet_op; refine hK _ ?_) | (go_simp; refine hK _ ?_)); clear hK K)
  (refine Mix.mix_c rfl rfl (fun K hK => ?_); (conv => arg 2; whnf); go_simp; apply Exists.intro; refine ⟨fun _ => ?_, hK _ ?_⟩; exact OpenNil_any _ _; clear hK K)
  repeat (refine Mix.mix_q rfl rfl rfl (fun K hK => ?_); (conv => arg 2; whnf); (first | (go_big_quiet_op; refine hK _ ?_) | (go_simp; refine hK _ ?_)); clear hK K)
  (refine Mix.mix_c rfl rfl (fun K hK => ?_); (conv => arg 2; whnf); go_simp; apply Exists.intro; refine ⟨fun _ => ?_, hK _ ?_⟩; exact of_any _ _; clear hK K)
  repeat (refine Mix.mix_q rfl rfl rfl (fun K hK => ?_); (conv => arg 2; whnf); (first | (go_big_quiet_op; refine hK _ ?_) | (go_simp; refine hK _ ?_)); clear hK K)
  (refine Mix.mix_c rfl rfl (fun K hK => ?_); (conv => arg 2; whnf); go_simp; apply Exists.intro; refine ⟨fun _ => ?_, hK _ ?_⟩; exact of_any _ _; clear hK K)
  repeat (refine Mix.mix_q rfl rfl rfl (fun K hK => ?_); (conv => arg 2; whnf); (first | (go_big_quiet_op; refine hK _ ?_) | (go_simp; refine hK _ ?_)); clear hK K)
  (refine Mix.mix_c rfl rfl (fun K hK => ?_); (conv => arg 2; whnf); go_simp; apply Exists.intro; refine ⟨fun _ => ?_, hK _ ?_⟩; exact Select_any true 1 2 (by simp [In64]) (by simp [In64]) _; clear hK K)
  have es : sel true 1 2 = 1 := rfl
  rw [es]
  repeat (refine Mix.mix_q rfl rfl rfl (fun K hK => ?_); (conv => arg 2; whnf); (first | (go_big_quiet_op; refine hK _ ?_) | (go_simp; refine hK _ ?_)); clear hK K)
  (refine Mix.mix_c rfl rfl (fun K hK => ?_); (conv => arg 2; whnf); go_simp; apply Exists.intro; refine ⟨fun _ => ?_, hK _ ?_⟩; exact OpenNil_any _ _; clear hK K)
  repeat (refine Mix.mix_q rfl rfl rfl (fun K hK => ?_); (conv => arg 2; whnf); (first | (go_big_quiet_op; refine hK _ ?_) | (go_simp; refine hK _ ?_)); clear hK K)
  refine (Mix.mix_nil (fun w4 hE4 => ?_))
  dsimp only [Exit.then]
  go_wp2
  go_ret
  exact ⟨rfl, ((hE1.trans hE2).trans hE3).trans (((Ext.refl _).alloc' _).drew'.trans hE4)⟩
theorem apart_step {F F' G : List Nat} {n : Nat} (hF : ∀ x ∈ F', x ∈ F ∨ n ≤ x) (hd : ∀ x ∈ F, x ∉ G) (hG : ∀ x ∈ G, x < n) : ∀ x ∈ F', x ∉ G := fun x hx hm => by
  rcases hF x hx with h | h
  · exact hd x h hm
  · have := hG x hm; omega
theorem apart_symm {F G : List Nat} (hd : ∀ x ∈ F, x ∉ G) : ∀ x ∈ G, x ∉ F := fun x hx hm => hd x hm hx
theorem boxed_turn {F : List Nat} {W W' : World} {b : Nat} {t : TypeId} {v : Value} (h : Boxed W b t v) (hT : Turn F W W') (hb : b ∉ F) : Boxed W' b t v := (hT.block b h.lt hb).trans h
def opens (k : Nat) : List (Int × Int) := List.replicate k (3, 0)
theorem opens_succ (k : Nat) : opens k ++ [(3, 0)] = opens (k + 1) := by simp [opens, List.replicate_succ']
theorem opens_len (k : Nat) : (opens k).length = k := by simp [opens]
theorem opens_count (k : Nat) : countE (opens k) 3 = k := by simp [opens, countE]
set_option maxHeartbeats 1000000 in
set_option maxRecDepth 100000 in
theorem SecOpens_walk (a b n : Int) (hn : 0 ≤ n ∧ n ≤ 255) (w : World) : Calls Try.prog 3 #[.int .i64 a, .int .i64 b, .int .u8 n] w fun e w' => e = .returned (.bool true) ∧ Ext w w' := by
  obtain ⟨hn0, hn1⟩ := hn
  go_enter Try.func3, Try.ntmps3
  go_wp2_with fail
  refine (New_rc w).mono ?_
  rintro e w1 ⟨rfl, hR1, hE1⟩
  go_wp2_with fail
  refine (New_rc w1).mono ?_
  rintro e w2 ⟨rfl, hS2, hE2⟩
  have hR2 := hR1.ext hE2
  go_wp2_with fail
  refine (of_any a w2).mono ?_
  rintro e w3 ⟨rfl, hE3⟩
  go_wp2_with fail
  refine (of_any b _).mono ?_
  rintro e w4 ⟨rfl, hE4⟩
  have E4 : Ext w2 w4 := hE3.trans (((Ext.refl w3).alloc' _).trans hE4)
  have hA4 : Boxed w4 w3.heap.size 25 (.int .i64 a) := hE4.blk (World.alloc_heap_new w3 _)
  go_wp2
  have hB5 : Boxed (w4.alloc (.cells #[.int .i64 b] 25)) w4.heap.size 25 (.int .i64 b) := Boxed.new w4 _ _
  have hA5 := hA4.alloc (.cells #[.int .i64 b] 25)
  have E5 : Ext w2 (w4.alloc (.cells #[.int .i64 b] 25)) := E4.alloc' _
  have hR5 := hR2.ext E5
  have hS5 := hS2.ext E5
  have hw1 : w.heap.size < w1.heap.size := hR1.lt _ (by simp)
  have hw2 : w1.heap.size < w2.heap.size := hS2.lt _ (by simp)
  have hw3 := hE3.size
  have hw4 : w3.heap.size < w4.heap.size := hA4.lt
  have E05 : Ext w (w4.alloc (.cells #[.int .i64 b] 25)) := (hE1.trans hE2).trans E5
  generalize w4.alloc (.cells #[.int .i64 b] 25) = w5 at *
  go_loopw [11] (fun t wr => ∃ (k : Nat) (F G : List Nat), (k : Int) ≤ n % 20 ∧ t = .int .i64 k ∧ Rc wr (some w.heap.size) (opens k) F ∧ Rc wr (some w1.heap.size) (opens k) G ∧ (∀ x ∈ F, x ∉ G) ∧
      (∀ x ∈ F, w.heap.size ≤ x ∧ x ≠ w3.heap.size ∧ x ≠ w4.heap.size) ∧ (∀ x ∈ G, w.heap.size ≤ x ∧ x ≠ w3.heap.size ∧ x ≠ w4.heap.size) ∧
      Boxed wr w3.heap.size 25 (.int .i64 a) ∧ Boxed wr w4.heap.size 25 (.int .i64 b) ∧ Ext w wr) (fun t _ => (n % 20).toNat - (intOf t).toNat)
  case atStart =>
    refine ⟨0, [w.heap.size], [w1.heap.size], by omega, rfl, hR5, hS5, ?_, ?_, ?_, hA5, hB5, E05⟩
    · simp; omega
    · simp; omega
    · simp; omega
  case round =>
    obtain ⟨k, F, G, hk, rfl, hRr, hSr, hd, hF, hG, hAr, hBr, hEr⟩ := hrel
    by_cases hlt : (k : Int) < n % 20
    · have hc1 := hAr.cell
      go_wp2_with fail
      refine (Open_rc a (some w.heap.size) (opens k) F (.inr (by rw [opens_len]; omega)) _ hRr).mono ?_
      rintro e w6 ⟨rfl, F', hR6, hT6, hF6⟩
      have hS6 := hSr.turn hT6 (apart_symm hd)
      have hd6 := apart_step hF6 hd hSr.lt
      have hA6 := boxed_turn hAr hT6 (fun hm => (hF _ hm).2.1 rfl)
      have hB6 := boxed_turn hBr hT6 (fun hm => (hF _ hm).2.2 rfl)
      have hF6' : ∀ x ∈ F', w.heap.size ≤ x ∧ x ≠ w3.heap.size ∧ x ≠ w4.heap.size := fun x hx => by
        rcases hF6 x hx with h | h
        · exact hF x h
        · have h1 := hEr.size
          have h2 := hAr.lt
          have h3 := hBr.lt
          omega
      have hE6 : Ext w w6 := Below.trans hEr (hT6.below (B := w.heap.size) (fun x hx => (hF x hx).1) hEr.size)
      clear hd hF hF6 hRr hSr hAr hEr hT6 hBr
      have hc2 := hB6.cell
      go_wp2_with fail
      refine (Open_rc b (some w1.heap.size) (opens k) G (.inr (by rw [opens_len]; omega)) _ hS6).mono ?_
      rintro e w7 ⟨rfl, G', hS7, hT7, hG7⟩
      have hR7 := hR6.turn hT7 hd6
      have hd7 := apart_symm (apart_step hG7 (apart_symm hd6) hR6.lt)
      have hA7 := boxed_turn hA6 hT7 (fun hm => (hG _ hm).2.1 rfl)
      have hB7 := boxed_turn hB6 hT7 (fun hm => (hG _ hm).2.2 rfl)
      have hG7' : ∀ x ∈ G', w.heap.size ≤ x ∧ x ≠ w3.heap.size ∧ x ≠ w4.heap.size := fun x hx => by
        rcases hG7 x hx with h | h
        · exact hG x h
        · have h1 := hE6.size
          have h2 := hA6.lt
          have h3 := hB6.lt
          omega
      have hE7 : Ext w w7 := Below.trans hE6 (hT7.below (B := w.heap.size) (fun x hx => (hG x hx).1) hE6.size)
      rw [opens_succ] at hR7 hS7
      clear hd6 hG hG7 hR6 hS6 hA6 hE6 hT7 hB6
      go_wp2
      go_roundw
      case rel => exact ⟨k + 1, F', G', by omega, by go_num, hR7, hS7, hd7, hF6', hG7', hA7, hB7, hE7⟩
      case measure => simp [intOf]; omega
    · have hkn : (k : Int) = n % 20 := by omega
      have hcnt : countE (opens k) 3 = n % 20 := by rw [opens_count]; exact hkn
      have hlen := opens_len k
      have hl : (opens k).length ≤ 316 := by omega
      have m1 := known03_any wr
      have hcnt' := Lib.hid hcnt
      have hkn' := Lib.hid hkn
      clear hcnt hlen hkn
      go_wp2_with fail
      refine m1.mono ?_
      rintro e w6 ⟨rfl, hE6⟩
      go_wp2_with fail
      refine (Count_rc w.heap.size (opens k) F 3 w6 (hRr.ext hE6) hl).mono ?_
      rw [hcnt'.out]
      rintro e w7 ⟨rfl, hE7⟩
      go_wp2_with fail
      refine (Same_rc w.heap.size w1.heap.size (opens k) F G w7 ((hRr.ext hE6).ext hE7) ((hSr.ext hE6).ext hE7)).mono ?_
      rintro e w8 ⟨rfl, hE8⟩
      go_wp2
      go_ret
      exact ⟨rfl, hEr.trans (hE6.trans (hE7.trans hE8))⟩
end Go.Proofs.Ytoipadeeochbnaa
