import Derived.Test.YtoipadeeochbnaaBuf5
import Derived.Test.YtoipadeeochbnaaLawEdges
import Derived.Test.YtoipadeeochbnaaArgs
namespace Go.Proofs.Ytoipadeeochbnaa
open Go.RowKit Mix
set_option linter.unusedVariables false
attribute [local go_sem] Mix.calm Oper.quietUpon Try.words_nil
theorem Mix.Ext.trans' {a b c : World} (h : Ext a b) {F : List Nat} (k : Turn F b c) (hF : ∀ x ∈ F, a.heap.size ≤ x) : Ext a c := Below.trans h (k.below (B := a.heap.size) hF h.size)
theorem own_base {w : World} {base : Nat} {e : TypeId} {size : Nat} {v : Value} {n : Nat} {xs : List Value} (h : w.ownsRow base e size v n xs) : w.ownsRow 0 e size v n xs :=
  ⟨h.1, h.2.imp id (fun ⟨g, cap, cur, e, _, r⟩ => ⟨g, cap, cur, e, Nat.zero_le _, r⟩)⟩
set_option maxHeartbeats 2000000 in
set_option maxRecDepth 100000 in
theorem BufApart_walk (ao : Option Addr) (cl : Nat) (l : List Int) (i n : Int) (hi : 0 ≤ i ∧ i ≤ 255) (w : World) (hl : ArgInts w .i64 ao l) :
    Calls Try.prog 10 #[.slice ao l.length cl, .int .u8 i, .int .i64 n] w fun e w' => e = .returned (.bool true) ∧ Ext w w' := by
  obtain ⟨hi0, hi1⟩ := hi
  by_cases hbig : l.length ≤ 40 ∧ 0 < l.length
  · obtain ⟨hl40, hl0⟩ := hbig
    have hd1 : decide ((40 : Int) < (l.length : Int)) = false := by simp; omega
    have hd2 : ((l.length : Int) == 0) = false := by simp; rintro rfl; simp at hl0
    go_enter Try.func10, Try.ntmps10
    go_wp2
    go_loopw [7, 8] (fun s t wr => ∃ k : Nat, k ≤ l.length ∧ t = .int .i64 k ∧ wr.ownsRow w.heap.size 25 1 s k ((l.take k).map (Value.int .i64)) ∧ (k = 0 → s = .slice none 0 0) ∧ Ext (w) wr) (fun _ t _ => l.length - (intOf t).toNat)
    case atStart => exact ⟨0, Nat.zero_le _, rfl, World.ownsRow_nil _ _ _ _, fun _ => rfl, Ext.refl _⟩
    case round =>
      obtain ⟨k, hk, rfl, hS, hS0, hEr⟩ := hrel
      by_cases hlt : k < l.length
      · obtain ⟨x, hx⟩ : ∃ x, l[k]? = some x := ⟨_, List.getElem?_eq_getElem hlt⟩
        obtain ⟨al, rfl, hcx⟩ := (hl.ext hEr) k x hx
        have hx' := Lib.hid hx
        clear hx
        obtain ⟨i0, hi, hz0, hz1, hz2⟩ := info_parts Try.infoSec
        go_wp2_with fail
        refine (of_any x _).mono ?_
        rintro e w2 ⟨rfl, hE2⟩
        have hS2 := ownsRow_turn (F := []) hS (Turn.of_ext hE2) (by simp)
        have hw2 := hE2.size
        have hwr := hEr.size
        go_wp2_with (at_builtin; refine wpList_append_own _ rfl _ _ 73 rfl w.heap.size 25 i0 _ 1 8 Try.underlying73 hi hz0 hz1 hz2 rfl (by decide) _ _ _ rfl (hS2.alloc _) ⟨w2.heap.size, 0, none⟩ 1 1 [.int .i64 x] rfl rfl (cell_one_new _ _ _) (by simp [Value.oneCell']) (by unfold maxLen; omega) (by omega) (by simp; omega) ?_; intro v3 w3 hown3 hgrow3 _)
        have hE3 : Ext (w) w3 := by
          have hT : Turn u7.ownBlock.toList (w2.alloc (.cells #[.int .i64 x] 25)) w3 := turn_grownO hgrow3 (fun y e => by
            have e' : u7.ownBlock = some y := e
            simp [e'])
          refine (hEr.trans (hE2.trans ((Ext.refl w2).alloc' _))).trans' hT (fun y hy => ?_)
          exact (hS.lt y (by simpa using hy)).1
        have htk : (l.take k).map (Value.int .i64) ++ [.int .i64 x] = (l.take (k + 1)).map (Value.int .i64) := by rw [List.take_add_one, hx'.out]; simp
        rw [htk] at hown3
        clear hgrow3 hcx hS2
        go_wp2
        go_roundw
        case rel => exact ⟨k + 1, by omega, by go_num, hown3, fun h => by omega, hE3⟩
        case measure => simp [intOf]; omega
      · have hkn : k = l.length := by omega
        subst hkn
        rw [List.take_length] at hS
        obtain ⟨g, cs, rfl⟩ := ownsRow_form hS hl0
        have hS' := own_base hS
        have hj0 : 0 ≤ i % (l.length : Int) := Int.emod_nonneg _ (by omega)
        have hj1 : i % (l.length : Int) < (l.length : Int) := Int.emod_lt_of_pos _ (by omega)
        go_wp2_with fail
        refine (Of_bf none [] [] _ l wr rfl hS' (fun h => by subst h; simp at hl0) (by omega)).mono ?_
        rintro e w2 ⟨v, b, rfl, hB2, hb2, hv2, hE2⟩
        have hS2 := ownsRow_turn (F := []) hS (Turn.of_ext hE2) (by simp)
        go_wp2
        refine Mix.wp_region_mixX 0 (.c 0 (.c 1 (.c 2 (.c 3 (.c 4 (.c 5 (.c 6 (.c 7 (.c 8 (.e 9 .done)))))))))) (by kernel_rfl) (by kernel_rfl) (Nat.zero_le _) (fun hap hapf => ?_)
        repeat (refine Mix.mix_q rfl rfl rfl (fun K hK => ?_); (conv => arg 2; whnf); (first | (go_big_quiet_op; refine hK _ ?_) | (go_simp; refine hK _ ?_)); clear hK K)
        (refine Mix.mix_c rfl rfl (fun K hK => ?_); (conv => arg 2; whnf); go_simp; apply Exists.intro; refine ⟨fun _ => ?_, hK _ ?_⟩; exact of_any n _; clear hK K)
        repeat (refine Mix.mix_q rfl rfl rfl (fun K hK => ?_); (conv => arg 2; whnf); (first | (go_big_quiet_op; refine hK _ ?_) | (go_simp; refine hK _ ?_)); clear hK K)
        obtain ⟨y, hy⟩ : ∃ y, l[(i % (l.length : Int)).toNat]? = some y := ⟨_, List.getElem?_eq_getElem (by omega)⟩
        refine Mix.mix_last rfl rfl (by kernel_rfl) (fun w3 hE3 K hK => ?_)
        (conv => arg 2; whnf)
        have E3 : Ext w2 w3 := (Ext.refl w2).drew'.trans hE3
        have hS3 := ownsRow_turn (F := []) hS2 (Turn.of_ext E3) (by simp)
        have c1 : w3.cell? ⟨g, (i % (l.length : Int)).toNat, none⟩ = some (.int .i64 y) := by
          rw [hS3.cellAt _ (by omega)]
          simp [hy]
        have f1 := hS3.frozenAt (i % (l.length : Int)).toNat
        go_big_op
        refine hK _ _ (fun w4 hE4 => ?_)
        clear hK K
        (try dsimp only [Exit.then])
        have hgl := (hS.lt g rfl)
        have T4 : Turn [g] w2 w4 := ((Turn.of_ext E3).seq (turn_set (by simp))).seq (Turn.of_ext hE4)
        have hB4 := hB2.turn T4 (fun z hz => by
          simp only [bfoot, List.mem_cons, List.mem_append, List.not_mem_nil, or_false] at hz
          simp only [List.mem_singleton]
          rcases hz with h | h
          · omega
          · have := hv2 z h; omega)
        have E4 : Ext w w4 := (hEr.trans hE2).trans' T4 (fun z hz => by simp at hz; have := (hEr.trans hE2).size; omega)
        clear c1 f1 hE3 hE4 hS3 hS2 T4 hap hapf hS hS' hS0 hB2
        go_wp2_with fail
        refine (Words_bf b none l [] v [] w4 hB4 (by omega)).mono ?_
        rintro e w5 ⟨v5, rfl, hrow5, _, hE5⟩
        obtain ⟨g5, c5, rfl⟩ := ownsRow_form hrow5 hl0
        have hB5 := hB4.turn (Turn.of_ext hE5) (G := []) (by simp)
        go_wp2
        refine Mix.wp_region_mixX 0 (.c 0 (.c 1 (.c 2 (.c 3 (.c 4 (.c 5 (.c 6 (.c 7 (.c 8 (.e 9 .done)))))))))) (by kernel_rfl) (by kernel_rfl) (Nat.zero_le _) (fun hap hapf => ?_)
        repeat (refine Mix.mix_q rfl rfl rfl (fun K hK => ?_); (conv => arg 2; whnf); (first | (go_big_quiet_op; refine hK _ ?_) | (go_simp; refine hK _ ?_)); clear hK K)
        (refine Mix.mix_c rfl rfl (fun K hK => ?_); (conv => arg 2; whnf); go_simp; apply Exists.intro; refine ⟨fun _ => ?_, hK _ ?_⟩; exact of_any n _; clear hK K)
        repeat (refine Mix.mix_q rfl rfl rfl (fun K hK => ?_); (conv => arg 2; whnf); (first | (go_big_quiet_op; refine hK _ ?_) | (go_simp; refine hK _ ?_)); clear hK K)
        refine Mix.mix_last rfl rfl (by kernel_rfl) (fun w6 hE6 K hK => ?_)
        (conv => arg 2; whnf)
        have E6 : Ext w5 w6 := (Ext.refl w5).drew'.trans hE6
        have hS6 := ownsRow_turn (F := []) hrow5 (Turn.of_ext E6) (by simp)
        have c1 : w6.cell? ⟨g5, (i % (l.length : Int)).toNat, none⟩ = some (.int .i64 y) := by
          rw [hS6.cellAt _ (by omega)]
          simp [hy]
        have f1 := hS6.frozenAt (i % (l.length : Int)).toNat
        go_big_op
        refine hK _ _ (fun w7 hE7 => ?_)
        clear hK K
        (try dsimp only [Exit.then])
        have hgl5 := (hrow5.lt g5 rfl)
        have T7 : Turn [g5] w5 w7 := ((Turn.of_ext E6).seq (turn_set (by simp))).seq (Turn.of_ext hE7)
        have hlt4 := fun z hz => (show Bf w4 b none l [] _ from ⟨_, _, hB4, rfl⟩).lt z hz
        have hB7 := hB5.turn T7 (fun z hz => by
          have := hlt4 z hz
          simp only [List.mem_singleton]
          omega)
        have E7 : Ext w w7 := (E4.trans hE5).trans' T7 (fun z hz => by simp at hz; have := E4.size; have := hE5.size; omega)
        have hge : ∀ z ∈ bfoot b v [], w.heap.size ≤ z := fun z hz => by
          simp only [bfoot, List.mem_cons, List.mem_append, List.not_mem_nil, or_false] at hz
          have := hEr.size
          rcases hz with h | h
          · omega
          · have := hv2 z h; omega
        have hl7 := hl.ext E7
        clear c1 f1 hE6 hE7 hS6 hap hapf hrow5 hB5 hB4 T7 hy
        go_wp2_with fail
        refine (OpenB_bf b none l [] (bfoot b v []) w7 ⟨v, [], hB7, rfl⟩ (by omega) (.inl rfl)).mono ?_
        rintro e w8 ⟨v8, F8, rfl, hrow8, _, _, hT8, _⟩
        obtain ⟨g8, c8, rfl⟩ := ownsRow_form hrow8 hl0
        have E8 : Ext w w8 := Below.trans E7 (hT8.below (B := w.heap.size) hge E7.size)
        have hl8 := hl.ext E8
        go_wp2
        go_loopw [12] (fun t wr => ∃ k : Nat, k ≤ l.length ∧ t = .int .i64 k ∧ Ext w8 wr) (fun t _ => l.length - (intOf t).toNat)
        case atStart => exact ⟨0, Nat.zero_le _, rfl, Ext.refl _⟩
        case round =>
          obtain ⟨k, hk, rfl, hEk⟩ := hrel
          by_cases hlt : k < l.length
          · obtain ⟨x, hx⟩ : ∃ x, l[k]? = some x := ⟨_, List.getElem?_eq_getElem hlt⟩
            obtain ⟨al, rfl, hcx⟩ := (hl8.ext hEk) k x hx
            have c2 : wr.cell? ⟨g8, k, none⟩ = some (.int .i64 x) := by
              rw [(ownsRow_turn (F := []) hrow8 (Turn.of_ext hEk) (by simp)).cellAt k (by omega)]
              simp [hx]
            clear hx
            go_wp2
            refine Mix.wp_region_mixX 0 (.c 0 (.c 1 (.c 2 (.c 3 (.c 4 (.c 5 (.c 6 (.c 7 (.c 8 .done))))))))) (by kernel_rfl) (by kernel_rfl) (Nat.zero_le _) (fun hap hapf => ?_)
            have d1 : ∀ z, (ap wr z).cell? (al.add k) = some (.int .i64 x) := fun z => (ap_ext wr z).cell hcx
            have d2 : ∀ z, (ap wr z).cell? ⟨g8, k, none⟩ = some (.int .i64 x) := fun z => (ap_ext wr z).cell c2
            repeat (refine Mix.mix_q rfl rfl rfl (fun K hK => ?_); (conv => arg 2; whnf); (first | (go_big_quiet_op; refine hK _ ?_) | (go_simp; refine hK _ ?_)); clear hK K)
            refine (Mix.mix_nil (fun w9 hE9 => ?_))
            clear hap hapf d1 d2 hcx c2
            (try dsimp only [Exit.then])
            go_wp2
            go_roundw
            case rel => exact ⟨k + 1, by omega, by go_num, hEk.trans ((Ext.refl _).drew'.trans hE9)⟩
            case measure => simp [intOf]; omega
          · have hEw : Ext w wr := E8.trans hEk
            clear hl7 hl8 hrow8 hT8
            go_wp2_with fail
            refine (of_any n _).mono ?_
            rintro e w9 ⟨rfl, hE9⟩
            go_wp2_with fail
            refine (Set_nil 0 n _).mono ?_
            rintro e w10 ⟨rfl, hE10⟩
            go_wp2_with fail
            refine (Get_nil 0 _).mono ?_
            rintro e w11 ⟨rfl, hE11⟩
            go_wp2_with fail
            refine (known04_any _).mono ?_
            rintro e w12 ⟨rfl, hE12⟩
            go_wp2_with fail
            refine (Len_nil _).mono ?_
            rintro e w13 ⟨rfl, rfl⟩
            have c3 : w12.cell? ⟨w11.heap.size, 0, none⟩ = some (.int .i64 0) := hE12.cell (by simp)
            go_wp2_with fail
            refine (OpenNil_any 0 _).mono ?_
            rintro e w13 ⟨rfl, hE13⟩
            go_wp2_with fail
            refine (Words_nil _).mono ?_
            rintro e w14 ⟨rfl, rfl⟩
            go_wp2_with fail
            refine (OpenB_nil _).mono ?_
            rintro e w14 ⟨rfl, hE14⟩
            go_wp2
            go_ret
            exact ⟨rfl, (((hEw.trans hE9).trans hE10).trans hE11).trans ((((Ext.refl _).alloc' _).trans hE12).trans (hE13.trans hE14))⟩
  · by_cases h40 : 40 < l.length
    · go_enter Try.func10, Try.ntmps10
      go_wp2_with fail
      refine (known04_any _).mono ?_
      rintro e w1 ⟨rfl, hE1⟩
      go_wp2
      go_ret
      exact ⟨rfl, hE1⟩
    · have h0 : l.length = 0 := by omega
      have hd1 : decide ((40 : Int) < (l.length : Int)) = false := by simp; omega
      have hd2 : ((l.length : Int) == 0) = true := by simp [h0]
      have h0' := Lib.hid h0
      clear h0
      go_enter Try.func10, Try.ntmps10
      go_wp2_with fail
      refine (known04_any _).mono ?_
      rintro e w1 ⟨rfl, hE1⟩
      go_wp2
      go_ret
      exact ⟨rfl, hE1⟩
end Go.Proofs.Ytoipadeeochbnaa
