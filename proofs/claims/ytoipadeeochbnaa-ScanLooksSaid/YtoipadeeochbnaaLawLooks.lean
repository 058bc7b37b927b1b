import Derived.Test.YtoipadeeochbnaaKnown05
import Derived.Test.YtoipadeeochbnaaArgs
namespace Go.Proofs.Ytoipadeeochbnaa
open Go.RowKit Mix
set_option linter.unusedVariables false
attribute [local go_sem] Mix.calm Oper.quietUpon
def lookK (a : Int) (zs : List Int) : Nat → Int
  | 0 => 0
  | k + 1 => sel (decide (a = (k : Int))) (zs.getD k 0) (lookK a zs k)
theorem lookK_eq (a : Int) (zs : List Int) (k : Nat) : lookK a zs k = if 0 ≤ a ∧ a < k then zs.getD a.toNat 0 else 0 := by
  induction k with
  | zero => rw [if_neg (by omega)]; rfl
  | succ k ih =>
    unfold lookK
    by_cases h : a = (k : Int)
    · subst h
      rw [if_pos (by omega)]
      simp [sel]
    · have e : decide (a = (k : Int)) = false := by simpa using h
      rw [e, ih]
      simp only [sel]
      by_cases h2 : 0 ≤ a ∧ a < k
      · rw [if_pos h2, if_pos (by omega)]
      · rw [if_neg h2, if_neg (by omega)]
theorem lookK_in (a : Int) (zs : List Int) (h : ∀ x ∈ zs, In64 x) (k : Nat) : In64 (lookK a zs k) := by
  rw [lookK_eq]
  split
  · rw [List.getD_eq_getElem?_getD]
    cases hq : zs[a.toNat]? with
    | none => simp [In64]
    | some x => exact h x (List.mem_of_getElem? hq)
  · simp [In64]
set_option maxRecDepth 100000 in
theorem Look_any (ao : Option Addr) (cl : Nat) (zs : List Int) (a : Int) (ha : In64 a) (hz : ∀ x ∈ zs, In64 x) (hl : zs.length ≤ 1000) (w : World) (hA : ArgInts w .i64 ao zs) :
    Calls Try.prog 68 #[.slice ao zs.length cl, .agg #[.int .i64 a]] w fun e w' => e = .returned (.agg #[.int .i64 (lookK a zs zs.length)]) ∧ Ext w w' := by
  go_enter Try.func68, Try.ntmps68
  go_wp2_with fail
  refine (of_any 0 _).mono ?_
  rintro e w2 ⟨rfl, hE2⟩
  have hE02 : Ext w w2 := (((Ext.refl w).alloc' _).alloc' _).trans hE2
  have kA : Boxed w2 w.heap.size 25 (.int .i64 a) := hE2.blk ((Boxed.new w _ _).alloc _)
  have kR : Boxed w2 (w.heap.size + 1) 25 (.int .i64 0) := by
    have := Boxed.new (w.alloc (.cells #[.int .i64 a] 25)) 25 (.int .i64 0)
    rw [World.size_alloc] at this
    exact hE2.blk this
  have zR := kR.lt
  go_wp2
  have hE3 := (Ext.refl w2).alloc' (.cells #[.int .i64 0] 25)
  have kO : Boxed (w2.alloc (.cells #[.int .i64 0] 25)) w2.heap.size 25 (.int .i64 0) := Boxed.new w2 _ _
  generalize w2.alloc (.cells #[.int .i64 0] 25) = w3 at *
  have kA3 := hE3.blk kA
  have kR3 := hE3.blk kR
  have hE03 := hE02.trans hE3
  go_loopw [11] (fun t wr => ∃ k : Nat, k ≤ zs.length ∧ t = .int .i64 k ∧ Boxed wr w2.heap.size 25 (.int .i64 (lookK a zs k)) ∧ Turn [w2.heap.size] w3 wr) (fun t _ => zs.length - (intOf t).toNat)
  case atStart => exact ⟨0, Nat.zero_le _, rfl, kO, Turn.refl _ _⟩
  case round =>
    obtain ⟨k, hk, rfl, kOr, hT⟩ := hrel
    have zw := hE02.size
    have hEr : Ext w wr := Below.trans hE03 (hT.below (B := w.heap.size) (by simp; omega) hE03.size)
    have kAr := boxed_turn kA3 hT (by simp; omega)
    have kRr := boxed_turn kR3 hT (by simp; omega)
    by_cases hlt : k < zs.length
    · obtain ⟨x, hx⟩ : ∃ x, zs[k]? = some x := ⟨_, List.getElem?_eq_getElem hlt⟩
      obtain ⟨al, rfl, hcx⟩ := (hA.ext hEr) k x hx
      have hxe : zs.getD k 0 = x := by rw [List.getD_eq_getElem?_getD, hx]; rfl
      have hxi := hz x (List.mem_of_getElem? hx)
      have hli := lookK_in a zs hz k
      have hxe' := Lib.hid hxe
      clear hxe hx
      have q1 := kAr.cell
      have q2 := kOr.cell
      go_wp2
      refine Mix.wp_region_mixX 0 (.c 0 (.c 1 (.c 2 (.c 3 (.c 4 (.c 5 (.c 6 (.e 7 .done)))))))) (by kernel_rfl) (by kernel_rfl) (Nat.zero_le _) (fun hap hapf => ?_)
      have d1 : ∀ z, (ap wr z).cell? ⟨w.heap.size, 0, none⟩ = some (.int .i64 a) := fun z => (ap_ext wr z).cell q1
      have d2 : ∀ z, (ap wr z).cell? ⟨w2.heap.size, 0, none⟩ = some (.int .i64 (lookK a zs k)) := fun z => (ap_ext wr z).cell q2
      repeat (refine Mix.mix_q rfl rfl rfl (fun K hK => ?_); (conv => arg 2; whnf); (first | (go_big_quiet_op; refine hK _ ?_) | (go_simp; refine hK _ ?_)); clear hK K)
      (refine Mix.mix_c rfl rfl (fun K hK => ?_); (conv => arg 2; whnf); go_simp; apply Exists.intro; refine ⟨fun _ => ?_, hK _ ?_⟩; exact is_any _ _ ha (by unfold In64; omega) _; clear hK K)
      repeat (refine Mix.mix_q rfl rfl rfl (fun K hK => ?_); (conv => arg 2; whnf); (first | (go_big_quiet_op; refine hK _ ?_) | (go_simp; refine hK _ ?_)); clear hK K)
      (refine Mix.mix_c rfl rfl (fun K hK => ?_); (conv => arg 2; whnf); go_simp; apply Exists.intro; refine ⟨fun _ => ?_, hK _ ?_⟩; exact of_any _ _; clear hK K)
      repeat (refine Mix.mix_q rfl rfl rfl (fun K hK => ?_); (conv => arg 2; whnf); (first | (go_big_quiet_op; refine hK _ ?_) | (go_simp; refine hK _ ?_)); clear hK K)
      (refine Mix.mix_c rfl rfl (fun K hK => ?_); (conv => arg 2; whnf); go_simp; apply Exists.intro; refine ⟨fun _ => ?_, hK _ ?_⟩; exact Select_any _ _ _ hxi hli _; clear hK K)
      refine Mix.mix_last rfl rfl (by kernel_rfl) (fun w5 hE5 K hK => ?_)
      (conv => arg 2; whnf)
      have E5 : Ext wr w5 := (Ext.refl wr).drew'.trans hE5
      have k5 := E5.blk kOr
      have q5 := Boxed.cell k5
      have f5 := Boxed.frozen k5
      go_big_op
      refine hK _ _ (fun w6 hE6 => ?_)
      clear hK K
      (try dsimp only [Exit.then])
      have T6 : Turn [w2.heap.size] w3 w6 := ((hT.seq (Turn.of_ext E5)).seq (turn_set (by simp))).seq (Turn.of_ext hE6)
      have kO6 : Boxed w6 w2.heap.size 25 (.int .i64 (lookK a zs (k + 1))) := by
        have := hE6.blk (Boxed.set (.int .i64 (sel (decide (a = (k : Int))) x (lookK a zs k))) k5)
        unfold lookK
        rw [hxe'.out]
        exact this
      clear d1 d2 q1 q2 q5 f5 hap hapf hcx
      go_wp2
      go_roundw
      case rel => exact ⟨k + 1, by omega, by go_num, kO6, T6⟩
      case measure => simp [intOf]; omega
    · have hkn : k = zs.length := by omega
      subst hkn
      have q1 := kOr.cell
      have q2 := kRr.cell
      have f2 := kRr.frozen
      go_wp2
      have cF := (kRr.set (.int .i64 (lookK a zs zs.length))).cell
      refine bodyPost_ret (v := _) (by simp [results, Try.results68, go_sem, cF]; rfl) rfl ?_
      exact ⟨rfl, hEr.set' (by simp) _⟩
theorem refLook_any (ao : Option Addr) (cl : Nat) (zs : List Int) (a : Int) (hl : zs.length ≤ 1000) (w : World) (hA : ArgInts w .i64 ao zs) :
    Calls Try.prog 69 #[.slice ao zs.length cl, .int .i64 a] w fun e w' => e = .returned (.int .i64 (lookK a zs zs.length)) ∧ w = w' := by
  rw [lookK_eq]
  by_cases h0 : a < 0
  · rw [if_neg (by omega)]
    go_enter Try.func69, Try.ntmps69
    go_wp2
    go_ret
    exact ⟨rfl, rfl⟩
  · by_cases h1 : (zs.length : Int) ≤ a
    · rw [if_neg (by omega)]
      go_enter Try.func69, Try.ntmps69
      go_wp2
      go_ret
      exact ⟨rfl, rfl⟩
    · rw [if_pos (by omega)]
      have h00 : 0 ≤ a := by omega
      obtain ⟨k, rfl⟩ := Int.eq_ofNat_of_zero_le h00
      have hk : k < zs.length := by omega
      obtain ⟨x, hx⟩ : ∃ x, zs[k]? = some x := ⟨_, List.getElem?_eq_getElem hk⟩
      obtain ⟨al, rfl, hcx⟩ := hA k x hx
      have e : zs.getD ((k : Nat) : Int).toNat 0 = x := by rw [Int.toNat_natCast, List.getD_eq_getElem?_getD, hx]; rfl
      rw [e]
      clear e hx
      go_enter Try.func69, Try.ntmps69
      go_wp2
      go_ret
      exact ⟨rfl, rfl⟩
set_option maxRecDepth 100000 in
set_option maxHeartbeats 1000000 in
theorem ScanLooks_walk (ao : Option Addr) (cl : Nat) (zs : List Int) (hz : ∀ x ∈ zs, In64 x) (a k : Int) (ha : In64 a) (hk : 0 ≤ k ∧ k ≤ 255) (w : World) (hA : ArgInts w .i64 ao zs) :
    Calls Try.prog 13 #[.slice ao zs.length cl, .int .i64 a, .int .u8 k] w fun e w' => e = .returned (.bool true) ∧ Ext w w' := by
  obtain ⟨hk0, hk1⟩ := hk
  by_cases hbig : 300 < zs.length
  · have hd : decide ((300 : Int) < (zs.length : Int)) = true := by simp; omega
    go_enter Try.func13, Try.ntmps13
    go_wp2_with fail
    refine (known05_any _).mono ?_
    rintro e w1 ⟨rfl, hE1⟩
    go_wp2
    go_ret
    exact ⟨rfl, hE1⟩
  · have hd : decide ((300 : Int) < (zs.length : Int)) = false := by simp; omega
    have hl : zs.length ≤ 1000 := by omega
    have hz' := Lib.hid hz
    clear hz
    go_enter Try.func13, Try.ntmps13
    go_wp2_with fail
    refine (known05_any _).mono ?_
    rintro e w1 ⟨rfl, hE1⟩
    go_wp2_with fail
    refine (of_any a _).mono ?_
    rintro e w2 ⟨rfl, hE2⟩
    go_wp2_with fail
    refine (Look_any ao cl zs a ha hz'.out hl w2 (hA.ext (hE1.trans hE2))).mono ?_
    rintro e w3 ⟨rfl, hE3⟩
    go_wp2_with fail
    refine (OpenNil_any _ _).mono ?_
    rintro e w4 ⟨rfl, hE4⟩
    have E4 := ((hE1.trans hE2).trans hE3).trans hE4
    go_wp2_with fail
    refine (refLook_any ao cl zs a hl w4 (hA.ext E4)).mono ?_
    rintro e w5 ⟨rfl, rfl⟩
    go_wp2_with fail
    refine (of_any _ _).mono ?_
    rintro e w6 ⟨rfl, hE6⟩
    go_wp2_with fail
    refine (Look_any ao cl zs (k - 2) (by unfold In64; omega) hz'.out hl w6 (hA.ext (E4.trans hE6))).mono ?_
    rintro e w7 ⟨rfl, hE7⟩
    go_wp2_with fail
    refine (OpenNil_any _ _).mono ?_
    rintro e w8 ⟨rfl, hE8⟩
    have E8 := ((E4.trans hE6).trans hE7).trans hE8
    go_wp2_with fail
    refine (refLook_any ao cl zs (k - 2) hl w8 (hA.ext E8)).mono ?_
    rintro e w9 ⟨rfl, rfl⟩
    go_wp2
    go_ret
    exact ⟨rfl, E8⟩
end Go.Proofs.Ytoipadeeochbnaa
