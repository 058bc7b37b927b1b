import Derived.Test.YtoipadeeochbnaaKnown05
import Derived.Test.YtoipadeeochbnaaOfB5
import Derived.Test.YtoipadeeochbnaaScan6
namespace Go.Proofs.Ytoipadeeochbnaa
open Go.RowKit Mix
set_option linter.unusedVariables false
attribute [local go_sem] Mix.calm Oper.quietUpon
set_option maxRecDepth 100000 in
set_option maxHeartbeats 2000000 in
theorem ScanStores_walk (ao : Option Addr) (cl : Nat) (l : List Int) (hc : ao = none → cl = 0) (hz : ∀ x ∈ l, In64 x) (a s : Int) (ha : 0 ≤ a ∧ a ≤ 255) (hs : In64 s) (w : World) (hA : ArgInts w .i64 ao l) :
    Calls Try.prog 15 #[.slice ao l.length cl, .int .u8 a, .int .i64 s] w fun e w' => e = .returned (.bool true) ∧ Ext w w' := by
  obtain ⟨ha0, ha1⟩ := ha
  by_cases hbig : 60 < l.length
  · have hd : decide ((60 : Int) < (l.length : Int)) = true := by simp; omega
    go_enter Try.func15, Try.ntmps15
    go_wp2_with fail
    refine (known05_any _).mono ?_
    rintro e w1 ⟨rfl, hE1⟩
    go_wp2
    go_ret
    exact ⟨rfl, hE1⟩
  have hd1 : decide ((60 : Int) < (l.length : Int)) = false := by simp; omega
  by_cases hnil : l.length = 0
  · have hd2 : ((l.length : Int) == 0) = true := by rw [hnil]; rfl
    go_enter Try.func15, Try.ntmps15
    go_wp2_with fail
    refine (known05_any _).mono ?_
    rintro e w1 ⟨rfl, hE1⟩
    go_wp2
    go_ret
    exact ⟨rfl, hE1⟩
  have hd2 : ((l.length : Int) == 0) = false := beq_eq_false_iff_ne.2 (by omega)
  have hj0 : 0 ≤ a % (l.length : Int) := Int.emod_nonneg _ (by omega)
  have hj1 : a % (l.length : Int) < (l.length : Int) := Int.emod_lt_of_pos _ (by omega)
  have hz' := Lib.hid hz
  have hA' := Lib.hid hA
  clear hz
  go_enter Try.func15, Try.ntmps15
  go_wp2_with fail
  refine (of05_any ao cl l w hA hc (by omega)).mono ?_
  rintro e w1 ⟨b, r, v, Fr, tL, rfl, hB1, hgF, hLr, _, hE1⟩
  obtain ⟨aL, cL, rfl⟩ := own_form hLr
  clear hLr hA
  have hgF' := Lib.hid hgF
  clear hgF
  have hE1w := (Ext.refl w1).alloc' (.cells #[.slice aL l.length cL, .slice none 0 0] 82)
  have hB1' := (show Bf w1 b (some r) l [] _ from ⟨v, Fr, hB1, rfl⟩).ext hE1w
  have hE01 := hE1.trans hE1w
  generalize bfoot b v Fr = F1 at *
  clear hB1
  generalize hje : a % (l.length : Int) = j at *
  go_wp2_with fail
  refine (of_any j _).mono ?_
  rintro e w2 ⟨rfl, hE2⟩
  go_wp2_with fail
  refine (of_any s _).mono ?_
  rintro e w3 ⟨rfl, hE3⟩
  have hB3 := (hB1'.ext hE2).ext hE3
  have hE03 := (hE01.trans hE2).trans hE3
  have hjI : In64 j := by unfold In64; omega
  go_wp2_with fail
  refine (Store_bf b (some r) l [] F1 j s 0 l.length hjI hs hz'.out (by omega) (.inr (by simp; omega)) w3 hB3).mono ?_
  rw [clipI_self, clipI_zero]
  rintro e w4 ⟨rfl, F4, hB4, hT4, hF4⟩
  have hE04 : Ext w w4 := Below.trans hE03 (hT4.below (B := w.heap.size) hgF'.out hE03.size)
  have hgF4 : ∀ x ∈ F4, w.heap.size ≤ x := fun x hx => (hF4 x hx).elim (fun h => hgF'.out x h) (fun h => Nat.le_trans hE03.size h)
  have hzi : ∀ x ∈ storeV l j s 0 l.length, In64 x := storeV_in hs hz'.out (Int.le_refl _) (Int.le_refl _) (by omega)
  have hxl : (storeV l j s 0 l.length).length = l.length := layV_len _ _ _ _
  have hget : ∀ k : Int, getV (storeV l j s 0 l.length) k = if 0 ≤ k ∧ k < l.length then storeW j s k (getV l k) else getV l k := layV_eq _ _ _ _ (Int.le_refl _) (Int.le_refl _) (by omega)
  have hes : (([] : List (Int × Int)) ++ winB 0 l.length).length ≤ 2 * l.length + 1 := by rw [List.nil_append, winB_len]; unfold winN; omega
  generalize storeV l j s 0 l.length = ys at *
  generalize ([] : List (Int × Int)) ++ winB 0 l.length = es at *
  clear hB3 hT4 hF4 hE2 hE3 hE01 hE1 hE1w hB1'
  go_wp2_with fail
  refine (of_any j _).mono ?_
  rintro e w5 ⟨rfl, hE5⟩
  go_wp2_with fail
  have mL := Load_bf b (some r) ys es F4 j 0 l.length hjI hzi (by omega) (.inr (by omega)) w5 (hB4.ext hE5)
  rw [← hxl, clipI_self, clipI_zero, hxl] at mL
  refine mL.mono ?_
  clear mL
  rintro e w6 ⟨rfl, F6, hB6, hT6, hF6⟩
  have eX : loadV ys j 0 l.length = s := by
    rw [loadV_eq, if_pos ⟨hj0, hj1⟩, hget, if_pos ⟨hj0, hj1⟩]
    unfold storeW
    rw [show decide (j = j) = true by simp]
    rfl
  rw [eX]
  clear eX
  have hE45 := hE04.trans hE5
  have hE06 : Ext w w6 := Below.trans hE45 (hT6.below (B := w.heap.size) hgF4 hE45.size)
  have hgF6 : ∀ x ∈ F6, w.heap.size ≤ x := fun x hx => (hF6 x hx).elim (fun h => hgF4 x h) (fun h => Nat.le_trans hE45.size h)
  have hes2 : (es ++ winE 0 l.length).length ≤ 3 * l.length + 2 := by rw [List.length_append, winE_len]; unfold winN; omega
  generalize es ++ winE 0 l.length = es2 at *
  clear hB4 hT6 hF6 hE5 hE45 hgF4
  have hB6x := hB6.ext ((Ext.refl w6).alloc' (.cells #[.int .i64 s] 25))
  have hE6x := hE06.trans ((Ext.refl w6).alloc' (.cells #[.int .i64 s] 25))
  have cX : (w6.alloc (.cells #[.int .i64 s] 25)).cell? ⟨w6.heap.size, 0, none⟩ = some (.int .i64 s) := by rw [blk_cell (World.alloc_heap_new w6 _)]; rfl
  go_wp2_with fail
  refine (of_any l.length _).mono ?_
  rintro e w7 ⟨rfl, hE7⟩
  have hlI : In64 (l.length : Int) := by unfold In64; omega
  have hE67 := hE6x.trans hE7
  go_wp2_with fail
  have mL := Load_bf b (some r) ys es2 F6 l.length 0 l.length hlI hzi (by omega) (.inr (by omega)) w7 (hB6x.ext hE7)
  rw [← hxl, clipI_self, clipI_zero, hxl] at mL
  refine mL.mono ?_
  clear mL
  have eY : loadV ys l.length 0 l.length = 0 := by rw [loadV_eq, if_neg (by omega)]
  rw [eY]
  clear eY
  rintro e w8 ⟨rfl, F8, ⟨v8, Fr8, hB8, rfl⟩, hT8, hF8⟩
  have hE08 : Ext w w8 := Below.trans hE67 (hT8.below (B := w.heap.size) hgF6 hE67.size)
  have cX8 : w8.cell? ⟨w6.heap.size, 0, none⟩ = some (.int .i64 s) := by
    have hb : w7.heap[w6.heap.size]? = some (.cells #[.int .i64 s] 25 (0, 0)) := hE7.blk (World.alloc_heap_new w6 _)
    have := (hT8.block w6.heap.size (blk_lt hb) (fun hm => by have := hB6.lt _ hm; omega)).trans hb
    rw [blk_cell this]
    rfl
  have hE8x := (Ext.refl w8).alloc' (.cells #[.int .i64 0] 25)
  have cX9 := hE8x.cell cX8
  have cY9 : (w8.alloc (.cells #[.int .i64 0] 25)).cell? ⟨w8.heap.size, 0, none⟩ = some (.int .i64 0) := by rw [blk_cell (World.alloc_heap_new w8 _)]; rfl
  have hE09 := hE08.trans hE8x
  have hB9 := hB8.turn (Turn.of_ext hE8x) (G := []) (by simp)
  clear hB6 hT8 hF8 hE7 hE67 hB6x hE6x cX8 cX hgF6
  go_wp2_with fail
  refine (Words_bf b (some r) ys _ v8 Fr8 _ hB9 (by omega)).mono ?_
  intro e w10 hW
  obtain ⟨aw, cw, rfl, hcell, hE10⟩ := words_form hW
  rw [hxl]
  have cX10 := hE10.cell cX9
  have cY10 := hE10.cell cY9
  have hE010 := hE09.trans hE10
  clear hW hB9 hB8 cX9 cY9
  go_wp2
  have hcell' := Lib.hid hcell
  clear hcell
  have hyk : ∀ k : Nat, k < l.length → (k : Int) ≠ j → ys[k]? = l[k]? := fun k hk hkj => by
    rw [get_getV (by omega), get_getV hk, hget, if_pos ⟨by omega, by omega⟩]
    unfold storeW
    rw [show decide (j = (k : Int)) = false by simp; omega]
    rfl
  have hyk' := Lib.hid hyk
  clear hyk hget hzi
  go_loopw [13] (fun t wr => ∃ k : Nat, k ≤ l.length ∧ t = .int .i64 k ∧ Ext w10 wr) (fun t _ => l.length - (intOf t).toNat)
  case atStart => exact ⟨0, Nat.zero_le _, rfl, Ext.refl _⟩
  case round =>
    obtain ⟨k, hk, rfl, hEk⟩ := hrel
    by_cases hlt : k < l.length
    · by_cases hkj : (k : Int) = j
      · have hd3 : ((k : Int) == j) = true := beq_iff_eq.2 hkj
        go_wp2
        refine Mix.wp_region_mixX 0 (.c 0 (.c 1 (.c 2 (.c 3 (.c 4 (.c 5 (.c 6 (.c 7 (.c 8 (.c 9 (.c 10 (.c 11 (.c 12 (.c 13 (.c 14 .done))))))))))))))) (by kernel_rfl) (by kernel_rfl) (Nat.zero_le _) (fun hap hapf => ?_)
        repeat (refine Mix.mix_q rfl rfl rfl (fun K hK => ?_); (conv => arg 2; whnf); (first | (go_big_quiet_op; refine hK _ ?_) | (go_simp; refine hK _ ?_)); clear hK K)
        repeat (refine Mix.mix_passK rfl rfl (fun K hK => ?_); (conv => arg 1; whnf); go_simp; refine hK _ ?_; clear hK K)
        repeat (refine Mix.mix_q rfl rfl rfl (fun K hK => ?_); (conv => arg 2; whnf); (first | (go_big_quiet_op; refine hK _ ?_) | (go_simp; refine hK _ ?_)); clear hK K)
        refine (Mix.mix_nil (fun w11 hE11 => ?_))
        clear hap hapf
        (try dsimp only [Exit.then])
        go_wp2
        go_roundw
        case rel => exact ⟨k + 1, by omega, by go_num, hEk.trans ((Ext.refl _).drew'.trans hE11)⟩
        case measure => simp [intOf]; omega
      · have hd3 : ((k : Int) == j) = false := beq_eq_false_iff_ne.2 hkj
        have hd4 : ((k : Int) != j) = true := bne_iff_ne.2 hkj
        have hd5 : decide ((k : Int) = j) = false := decide_eq_false hkj
        obtain ⟨x, hx⟩ : ∃ x, l[k]? = some x := ⟨_, List.getElem?_eq_getElem hlt⟩
        obtain ⟨al, rfl, hcx⟩ := hA'.out.ext (hE010.trans hEk) k x hx
        obtain ⟨g, rfl, hcy⟩ := hcell'.out wr hEk k x ((hyk'.out k hlt hkj).trans hx)
        clear hx
        go_wp2
        refine Mix.wp_region_mixX 0 (.c 0 (.c 1 (.c 2 (.c 3 (.c 4 (.c 5 (.c 6 (.c 7 (.c 8 (.c 9 (.c 10 (.c 11 (.c 12 (.c 13 (.c 14 .done))))))))))))))) (by kernel_rfl) (by kernel_rfl) (Nat.zero_le _) (fun hap hapf => ?_)
        have d1 : ∀ z, (ap wr z).cell? (al.add k) = some (.int .i64 x) := fun z => (ap_ext wr z).cell hcx
        have d2 : ∀ z, (ap wr z).cell? ⟨g, k, none⟩ = some (.int .i64 x) := fun z => (ap_ext wr z).cell hcy
        repeat (refine Mix.mix_q rfl rfl rfl (fun K hK => ?_); (conv => arg 2; whnf); (first | (go_big_quiet_op; refine hK _ ?_) | (go_simp; refine hK _ ?_)); clear hK K)
        (refine Mix.mix_c rfl rfl (fun K hK => ?_); (conv => arg 2; whnf); go_simp; apply Exists.intro; refine ⟨fun _ => ?_, hK _ ?_⟩; exact OpenNil_any _ _; clear hK K)
        repeat (refine Mix.mix_q rfl rfl rfl (fun K hK => ?_); (conv => arg 2; whnf); (first | (go_big_quiet_op; refine hK _ ?_) | (go_simp; refine hK _ ?_)); clear hK K)
        refine (Mix.mix_nil (fun w11 hE11 => ?_))
        clear hap hapf d1 d2 hcx hcy
        (try dsimp only [Exit.then])
        go_wp2
        go_roundw
        case rel => exact ⟨k + 1, by omega, by go_num, hEk.trans ((Ext.refl _).drew'.trans hE11)⟩
        case measure => simp [intOf]; omega
    · have cX11 := hEk.cell cX10
      have cY11 := hEk.cell cY10
      have hE011 := hE010.trans hEk
      clear cX10 cY10
      go_wp2_with fail
      refine (known05_any _).mono ?_
      rintro e w11 ⟨rfl, hE11⟩
      have cX12 := hE11.cell cX11
      have cY12 := hE11.cell cY11
      clear cX11 cY11
      go_wp2_with fail
      refine (OpenNil_any s _).mono ?_
      rintro e w12 ⟨rfl, hE12⟩
      have cY13 := hE12.cell cY12
      clear cX12 cY12
      go_wp2_with fail
      refine (OpenNil_any 0 _).mono ?_
      rintro e w13 ⟨rfl, hE13⟩
      go_wp2
      go_ret
      exact ⟨rfl, ((hE011.trans hE11).trans hE12).trans hE13⟩
end Go.Proofs.Ytoipadeeochbnaa
