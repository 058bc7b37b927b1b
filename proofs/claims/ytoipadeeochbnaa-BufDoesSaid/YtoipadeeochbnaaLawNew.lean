import Derived.Test.YtoipadeeochbnaaBuf5
import Derived.Test.YtoipadeeochbnaaLawEdges
import Derived.Test.YtoipadeeochbnaaArgs
namespace Go.Proofs.Ytoipadeeochbnaa
open Go.RowKit Mix
set_option linter.unusedVariables false
attribute [local go_sem] Mix.calm Oper.quietUpon
set_option maxRecDepth 100000 in
set_option maxHeartbeats 1000000 in
theorem From_bf (p : Option Nat) (es : List (Int × Int)) (Fr : List Nat) (ao : Option Addr) (cl : Nat) (l : List Int) (hn : l.length ≤ 1048576) (w : World) (h : Rc w p es Fr) (hl : ArgInts w .u8 ao l) (hlb : ∀ x ∈ l, 0 ≤ x ∧ x ≤ 255) :
    Calls Try.prog 59 #[ptr p, .slice ao l.length cl] w (NewB p l es Fr w) := by
  have hlt := h.lt
  have hd1 : decide ((1048576 : Int) < (l.length : Int)) = false := by simp; omega
  show Calls _ _ #[.pointer (p.map fun r => ⟨r, 0, none⟩), _] _ _
  go_enter Try.func59, Try.ntmps59
  go_wp2
  have hB0 : BufAt (w.alloc (.cells #[.pointer (p.map fun r => ⟨r, 0, none⟩), .slice none 0 0] 152)) w.heap.size p [] es (.slice none 0 0) Fr :=
    ⟨World.alloc_heap_new w _, World.ownsRow_nil _ _ _ _, fun _ => rfl, h.ext ((Ext.refl w).alloc' _), by simp [Value.ownBlock]; exact fun hm => by have := hlt _ hm; omega, by simp [Value.ownBlock]⟩
  have hE0 : Ext w (w.alloc (.cells #[.pointer (p.map fun r => ⟨r, 0, none⟩), .slice none 0 0] 152)) := (Ext.refl w).alloc' _
  generalize w.alloc (.cells #[.pointer (p.map fun r => ⟨r, 0, none⟩), .slice none 0 0] 152) = w1 at *
  go_loopw [16] (fun t wr => ∃ (xs : List Int) (v : Value), xs.length ≤ l.length ∧ xs = l.take xs.length ∧ t = .int .i64 xs.length ∧ BufAt wr w.heap.size p xs es v Fr ∧ (∀ x ∈ v.ownBlock.toList, w.heap.size ≤ x) ∧ Ext w wr) (fun t _ => l.length - (intOf t).toNat)
  case atStart => exact ⟨[], _, Nat.zero_le _, rfl, rfl, hB0, by simp [Value.ownBlock], hE0⟩
  case round =>
    obtain ⟨xs, v, hxl, hxr, rfl, hB, hown, hEr⟩ := hrel
    have hxr' := Lib.hid hxr
    clear hxr
    by_cases hlt2 : xs.length < l.length
    · obtain ⟨x, hx⟩ : ∃ x, l[xs.length]? = some x := ⟨_, List.getElem?_eq_getElem hlt2⟩
      obtain ⟨al, rfl, hcx⟩ := (hl.ext hEr) _ x hx
      obtain ⟨hx0, hx1⟩ := hlb x (List.mem_of_getElem? hx)
      have hx' := Lib.hid hx
      clear hx
      go_wp2
      have hl2 := blk_lt hB.cell
      obtain ⟨a, c, rfl⟩ := own_form hB.row
      have hcell2 : wr.cell? ⟨w.heap.size, 1, none⟩ = some (.slice a xs.length c) := by rw [blk_cell hB.cell]; rfl
      refine Mix.wp_region_mixK [w.heap.size] (.c 0 (.c 1 (.c 2 (.c 3 (.c 4 (.c 5 (.c 6 (.c 7 (.e 8 (.e 9 (.c 10 (.c 11 (.e 12 .done))))))))))))) (by kernel_rfl) (by kernel_rfl) (by simpa using hl2) ?_
      have hcx := Mix.Keeps.cell (L := [w.heap.size]) (by simp) hcell2
      repeat (first | (refine Mix.mix_q rfl rfl rfl (fun K hK => ?_); (conv => arg 2; whnf); (first | (go_big_quiet_op; refine hK _ ?_) | (go_simp; refine hK _ ?_)); clear hK K) | (refine Mix.mix_nilK rfl rfl rfl rfl (fun K hK => ?_); (conv => arg 1; whnf); go_simp; refine hK _ ?_; clear hK K))
      (refine Mix.mix_c rfl rfl (fun K hK => ?_); (conv => arg 2; whnf); go_simp; apply Exists.intro; refine ⟨fun _ => ?_, hK _ ?_⟩; exact of_any _ _; clear hK K)
      repeat (first | (refine Mix.mix_q rfl rfl rfl (fun K hK => ?_); (conv => arg 2; whnf); (first | (go_big_quiet_op; refine hK _ ?_) | (go_simp; refine hK _ ?_)); clear hK K) | (refine Mix.mix_nilK rfl rfl rfl rfl (fun K hK => ?_); (conv => arg 1; whnf); go_simp; refine hK _ ?_; clear hK K))
      refine Mix.mix_one rfl rfl (fun w4 hE4 K hK => ?_)
      (conv => arg 2; whnf)
      go_big_op
      have E4 : Ext wr w4 := (Ext.refl _).drew'.trans hE4
      refine hK _ _ (Mix.yes (Mix.Keeps.ext (by simpa using hl2) wr _ (fun _ _ => rfl) (E4.alloc' _))) ?_
      clear hK K
      refine Mix.mix_one rfl rfl (fun w5 hE5 K hK => ?_)
      (conv => arg 2; whnf)
      have E5 : Ext wr w5 := (E4.alloc' _).trans hE5
      have hrow5 := ownsRow_turn (F := []) hB.row (Turn.of_ext E5) (by simp)
      obtain ⟨i1, hi1, hy0, hy1, hy2⟩ := info_parts Try.infoSec
      refine wp_append_at w5 _ _ 73 rfl 0 25 i1 (.agg #[.int .i64 0]) 1 8 Try.underlying73 hi1 hy0 hy1 hy2 rfl (by decide) _ _ _ rfl hrow5 ⟨w4.heap.size, 0, none⟩ 1 1 [.int .i64 x] rfl rfl ?_ ?_ (by unfold maxLen; omega) (by omega) (by omega) ?_
      · exact fun j u hj => hE5.cell (cell_one_new _ _ _ j u hj)
      · simp [Value.oneCell']
      intro v6 w6 hrow6 hg6 hat6
      have hvb : (Value.slice a xs.length c).ownBlock ≠ some w.heap.size := fun e => hB.apart.1 (by simp [e])
      have h6r : w6.heap[w.heap.size]? = wr.heap[w.heap.size]? := (hg6.block _ (Nat.lt_of_lt_of_le hl2 E5.size) (fun e => hvb e.symm)).trans (E5.block _ hl2)
      go_simp
      refine hK _ _ (Mix.yes (fun b hb => by simp only [List.mem_singleton] at hb; subst hb; exact h6r)) ?_
      clear hK K
      repeat (first | (refine Mix.mix_q rfl rfl rfl (fun K hK => ?_); (conv => arg 2; whnf); (first | (go_big_quiet_op; refine hK _ ?_) | (go_simp; refine hK _ ?_)); clear hK K) | (refine Mix.mix_nilK rfl rfl rfl rfl (fun K hK => ?_); (conv => arg 1; whnf); go_simp; refine hK _ ?_; clear hK K))
      refine Mix.mix_last rfl rfl (by kernel_rfl) (fun w7 hE7 K hK => ?_)
      (conv => arg 2; whnf)
      obtain ⟨g, cp, rfl⟩ := ownsRow_form hrow6 (by omega)
      have h7r : w7.heap[w.heap.size]? = some (.cells #[ptr p, .slice a xs.length c] 152 (0, 0)) := hE7.blk (h6r.trans hB.cell)
      have h7c : w7.cell? ⟨w.heap.size, 1, none⟩ = some (.slice a xs.length c) := by rw [blk_cell h7r]; rfl
      have h7f : w7.frozen? ⟨w.heap.size, 1, none⟩ = false := blk_free h7r 1
      go_big_op
      refine hK _ _ (fun w8 hE8 => ?_)
      clear hK K
      (try dsimp only [Exit.then])
      obtain ⟨hB8, hT8, hgv⟩ := bpush_end (x := x) hB E5 hrow6 hg6 (by
        rcases hat6 with e | e
        · exact .inl e.symm
        · right; simpa [Value.ownBlock] using e) hE7 hE8
      have hge : ∀ y ∈ w.heap.size :: (Value.slice a xs.length c).ownBlock.toList, w.heap.size ≤ y := by
        intro y hy
        rcases List.mem_cons.1 hy with rfl | hy
        · exact Nat.le_refl _
        · exact hown y hy
      have hE8' : Ext w w8 := Below.trans hEr (hT8.below (B := w.heap.size) hge hEr.size)
      have hown8 : ∀ y ∈ (Value.slice (some ⟨g, 0, none⟩) (xs.length + 1) cp).ownBlock.toList, w.heap.size ≤ y := by
        intro y hy
        simp only [Value.ownBlock, Option.toList_some, List.mem_singleton] at hy
        subst hy
        rcases hgv with e | e
        · exact hown y (by simp [e])
        · have := hEr.size; omega
      clear h7r h7c h7f h6r hat6 hg6 hrow6 hrow5 hcell2 hcx E4 hE4 hE5 hE7 hE8 hT8 hge hvb
      go_wp2
      go_roundw
      case rel =>
        refine ⟨xs ++ [x], _, by simp; omega, ?_, by simp, hB8, hown8, hE8'⟩
        have e := hxr'.out
        have e2 := hx'.out
        rw [List.length_append, List.length_singleton, List.take_add_one, e2, ← e]
        rfl
      case measure => simp [intOf]; omega
    · have hxn : xs = l := by
        have e := hxr'.out
        rw [List.take_of_length_le (by omega)] at e
        exact e
      subst hxn
      go_wp2
      go_ret
      exact ⟨v, _, rfl, hB, Nat.le_refl _, hown, hEr⟩
theorem New_none (n : Int) (hn : n < 0 ∨ 1048576 < n) (p : Option Nat) (w : World) : Calls Try.prog 33 #[ptr p, .int .i64 n] w fun e w' => e = .returned (.pointer none) ∧ w = w' := by
  by_cases h : n < 0
  · go_enter Try.func33, Try.ntmps33
    go_wp2
    go_ret
    exact ⟨rfl, rfl⟩
  · have h2 : 1048576 < n := by omega
    go_enter Try.func33, Try.ntmps33
    go_wp2
    go_ret
    exact ⟨rfl, rfl⟩
theorem oout_form {b : Nat} {p : Option Nat} {xs : List Int} {es : List (Int × Int)} {F : List Nat} {w w' : World} {e : Ending} (h : OOut b p xs es F w e w') :
    ∃ ao c F', e = .returned (.slice ao xs.length c) ∧ (∀ (w2 : World), Ext w' w2 → ∀ (k : Nat) (x : Int), xs[k]? = some x → ∃ g, ao = some ⟨g, 0, none⟩ ∧ w2.cell? ⟨g, k, none⟩ = some (.int .i64 x)) ∧ Bf w' b p xs (es ++ opens xs.length) F' ∧ Turn F w w' ∧ (∀ x ∈ F', x ∈ F ∨ w.heap.size ≤ x) := by
  obtain ⟨v, F', rfl, h1, h2, h3, h4, h5⟩ := h
  obtain ⟨ao, c, rfl⟩ := own_form h1
  refine ⟨ao, c, F', rfl, fun w2 hE k x hx => ?_, h3, h4, h5⟩
  have hk := (List.getElem?_eq_some_iff.1 hx).1
  obtain ⟨g, cp, e⟩ := ownsRow_form h1 (by omega)
  simp only [Value.slice.injEq, true_and] at e
  obtain ⟨rfl, rfl⟩ := e
  refine ⟨g, rfl, ?_⟩
  rw [(ownsRow_turn (F := []) h1 (Turn.of_ext hE) (by simp)).cellAt k (by omega)]
  simp [hx]
theorem rep_get {M k : Nat} (h : k < M) : (List.replicate M (0 : Int))[k]? = some 0 := by simp [h]
set_option maxRecDepth 100000 in
set_option maxHeartbeats 2000000 in
theorem BufNew_walk (n : Int) (ao : Option Addr) (cl : Nat) (l : List Int) (hlb : ∀ x ∈ l, 0 ≤ x ∧ x ≤ 255) (w : World) (hl : ArgInts w .u8 ao l) :
    Calls Try.prog 11 #[.int .i64 n, .slice ao l.length cl] w fun e w' => e = .returned (.bool true) ∧ Ext w w' := by
  by_cases hbig : 200 < l.length
  · go_enter Try.func11, Try.ntmps11
    go_wp2_with fail
    refine (known04_any _).mono ?_
    rintro e w1 ⟨rfl, hE1⟩
    go_wp2
    go_ret
    exact ⟨rfl, hE1⟩
  have hd1 : decide ((200 : Int) < (l.length : Int)) = false := by simp; omega
  by_cases hok : 0 ≤ n ∧ n ≤ 1048576
  · obtain ⟨h0, h1⟩ := hok
    obtain ⟨nn, rfl⟩ := Int.eq_ofNat_of_zero_le h0
    have mA : Calls Try.prog 33 #[.pointer none, .int .i64 (nn : Int)] w (NewB none (List.replicate nn 0) [] [] w) := New_bf none [] [] nn (by omega) w rfl
    by_cases h300 : 300 < nn
    · have h3 : (300 : Int) < (nn : Int) := by omega
      go_enter Try.func11, Try.ntmps11
      go_wp2_with fail
      refine mA.mono ?_
      rintro e w1 ⟨va, ba, rfl, hA1, hba, hva, hE01⟩
      clear mA
      go_wp2_with fail
      have mN : Calls Try.prog 33 #[.pointer none, .int .i64 300] w1 (NewB none (List.replicate 300 0) [] [] w1) := New_bf none [] [] 300 (by omega) w1 rfl
      refine mN.mono ?_
      intro e w2 hN
      obtain ⟨b, F, rfl, hB2, hb, hF, hE2⟩ := hN.bf (w0 := w1.heap.size) (by simp) (Nat.le_refl _)
      clear hN mN
      go_wp2_with fail
      refine (OpenB_bf b none (List.replicate 300 0) [] F w2 hB2 (by simp <;> omega) (.inl rfl)).mono ?_
      intro e w3 hO
      obtain ⟨ao3, c3, F3, rfl, hrd3, hB3, hT3, hF3⟩ := oout_form hO
      rw [List.length_replicate]
      clear hO
      have E23 : Turn F w1 w3 := (Turn.of_ext hE2).seq hT3
      have hA3 := hA1.turn E23 (fun z hz hm => by have h1 := hF z hm; have h2 := (show Bf w1 ba none (List.replicate nn 0) [] _ from ⟨_, _, hA1, rfl⟩).lt z hz; omega)
      have E03 : Ext w w3 := Mix.Ext.trans' (hE01.trans hE2) hT3 (fun x hx => Nat.le_trans hE01.size (hF x hx))
      have hrd3' := Lib.hid hrd3
      clear hrd3
      go_wp2
      go_loopw [10] (fun t wr => ∃ k : Nat, k ≤ 300 ∧ t = .int .i64 k ∧ Ext w3 wr) (fun t _ => 300 - (intOf t).toNat)
      case atStart => exact ⟨0, Nat.zero_le _, rfl, Ext.refl _⟩
      case round =>
        obtain ⟨k, hk, rfl, hEk⟩ := hrel
        by_cases hlt : k < 300
        · first
            | exact absurd hlt (by omega)
            | (obtain ⟨g, rfl, hcx⟩ := hrd3'.out wr hEk k 0 (rep_get hlt)
               go_wp2
               go_roundw
               case rel => exact ⟨k + 1, by omega, by go_num, hEk⟩
               case measure => simp [intOf]; omega)
        · have hl4 := (hl.ext E03).ext hEk
          go_wp2_with fail
          refine (From_bf none [] [] ao cl l (by omega) wr rfl hl4 hlb).mono ?_
          intro e w5 hN
          obtain ⟨b5, F5, rfl, hB5, hb5, hF5, hE5⟩ := hN.bf (w0 := wr.heap.size) (by simp) (Nat.le_refl _)
          clear hN
          go_wp2_with fail
          refine (OpenB_bf b5 none l [] F5 w5 hB5 (by omega) (.inl rfl)).mono ?_
          intro e w6 hO
          obtain ⟨ao6, c6, F6, rfl, hrd6, hB6, hT6, hF6⟩ := oout_form hO
          clear hO
          have E36 : Ext w3 w6 := Mix.Ext.trans' (hEk.trans hE5) hT6 (fun x hx => Nat.le_trans hEk.size (hF5 x hx))
          have E06 : Ext w w6 := E03.trans E36
          have hl6 := hl.ext E06
          have hrd6' := Lib.hid hrd6
          clear hrd6
          go_wp2
          go_loopw [13] (fun t wr => ∃ k : Nat, k ≤ l.length ∧ t = .int .i64 k ∧ Ext w6 wr) (fun t _ => l.length - (intOf t).toNat)
          case atStart => exact ⟨0, Nat.zero_le _, rfl, Ext.refl _⟩
          case round =>
            obtain ⟨j, hj, rfl, hEj⟩ := hrel
            by_cases hlt7 : j < l.length
            · obtain ⟨x, hx⟩ : ∃ x, l[j]? = some x := ⟨_, List.getElem?_eq_getElem hlt7⟩
              obtain ⟨g6, rfl, hc6⟩ := hrd6'.out _ hEj j x hx
              obtain ⟨al, rfl, hca⟩ := (hl6.ext hEj) j x hx
              obtain ⟨hx0, hx1⟩ := hlb x (List.mem_of_getElem? hx)
              clear hx
              go_wp2
              refine Mix.wp_region_mixX 0 (.c 0 (.c 1 (.c 2 (.c 3 (.c 4 (.c 5 (.c 6 (.c 7 (.c 8 (.c 9 .done)))))))))) (by kernel_rfl) (by kernel_rfl) (Nat.zero_le _) (fun hap hapf => ?_)
              have d1 : ∀ z, (ap wr z).cell? (al.add j) = some (.int .u8 x) := fun z => (ap_ext wr z).cell hca
              have d2 : ∀ z, (ap wr z).cell? ⟨g6, j, none⟩ = some (.int .i64 x) := fun z => (ap_ext wr z).cell hc6
              repeat (refine Mix.mix_q rfl rfl rfl (fun K hK => ?_); (conv => arg 2; whnf); (first | (go_big_quiet_op; refine hK _ ?_) | (go_simp; refine hK _ ?_)); clear hK K)
              refine (Mix.mix_nil (fun w9 hE9 => ?_))
              clear hap hapf d1 d2 hca hc6
              (try dsimp only [Exit.then])
              go_wp2
              go_roundw
              case rel => exact ⟨j + 1, by omega, by go_num, hEj.trans ((Ext.refl _).drew'.trans hE9)⟩
              case measure => simp [intOf]; omega
            · have hjl : j = l.length := by omega
              subst hjl
              go_wp2_with fail
              refine (known04_any _).mono ?_
              rintro e w9 ⟨rfl, hE9⟩
              go_wp2_with fail
              refine (Len_bf ba none (List.replicate nn 0) [] va [] _ (hA3.turn (Turn.of_ext (E36.trans (hEj.trans hE9))) (G := []) (by simp))).mono ?_
              rw [List.length_replicate]
              rintro e w10 ⟨rfl, rfl⟩
              go_wp2
              go_ret
              exact ⟨rfl, E06.trans (hEj.trans hE9)⟩
    · by_cases hz : nn = 0
      · subst hz
        have mA' : Calls Try.prog 33 #[.pointer none, .int .i64 0] w (NewB none (List.replicate 0 0) [] [] w) := mA
        clear mA
        show Calls _ _ #[.int .i64 0, _] _ _
        go_enter Try.func11, Try.ntmps11
        go_wp2_with fail
        refine mA'.mono ?_
        rintro e w1 ⟨va, ba, rfl, hA1, hba, hva, hE01⟩
        clear mA'
        go_wp2_with fail
        have mN : Calls Try.prog 33 #[.pointer none, .int .i64 0] w1 (NewB none (List.replicate 0 0) [] [] w1) := New_bf none [] [] 0 (by omega) w1 rfl
        refine mN.mono ?_
        intro e w2 hN
        obtain ⟨b, F, rfl, hB2, hb, hF, hE2⟩ := hN.bf (w0 := w1.heap.size) (by simp) (Nat.le_refl _)
        clear hN mN
        go_wp2_with fail
        refine (OpenB_bf b none (List.replicate 0 0) [] F w2 hB2 (by simp <;> omega) (.inl rfl)).mono ?_
        intro e w3 hO
        obtain ⟨ao3, c3, F3, rfl, hrd3, hB3, hT3, hF3⟩ := oout_form hO
        rw [List.length_replicate]
        clear hO
        have E23 : Turn F w1 w3 := (Turn.of_ext hE2).seq hT3
        have hA3 := hA1.turn E23 (fun z hz hm => by have h1 := hF z hm; have h2 := (show Bf w1 ba none (List.replicate 0 0) [] _ from ⟨_, _, hA1, rfl⟩).lt z hz; omega)
        have E03 : Ext w w3 := Mix.Ext.trans' (hE01.trans hE2) hT3 (fun x hx => Nat.le_trans hE01.size (hF x hx))
        have hrd3' := Lib.hid hrd3
        clear hrd3
        go_wp2
        go_loopw [10] (fun t wr => ∃ k : Nat, k ≤ 0 ∧ t = .int .i64 k ∧ Ext w3 wr) (fun t _ => 0 - (intOf t).toNat)
        case atStart => exact ⟨0, Nat.zero_le _, rfl, Ext.refl _⟩
        case round =>
          obtain ⟨k, hk, rfl, hEk⟩ := hrel
          by_cases hlt : k < 0
          · first
              | exact absurd hlt (by omega)
              | (obtain ⟨g, rfl, hcx⟩ := hrd3'.out wr hEk k 0 (rep_get hlt)
                 go_wp2
                 go_roundw
                 case rel => exact ⟨k + 1, by omega, by go_num, hEk⟩
                 case measure => simp [intOf]; omega)
          · have hl4 := (hl.ext E03).ext hEk
            go_wp2_with fail
            refine (From_bf none [] [] ao cl l (by omega) wr rfl hl4 hlb).mono ?_
            intro e w5 hN
            obtain ⟨b5, F5, rfl, hB5, hb5, hF5, hE5⟩ := hN.bf (w0 := wr.heap.size) (by simp) (Nat.le_refl _)
            clear hN
            go_wp2_with fail
            refine (OpenB_bf b5 none l [] F5 w5 hB5 (by omega) (.inl rfl)).mono ?_
            intro e w6 hO
            obtain ⟨ao6, c6, F6, rfl, hrd6, hB6, hT6, hF6⟩ := oout_form hO
            clear hO
            have E36 : Ext w3 w6 := Mix.Ext.trans' (hEk.trans hE5) hT6 (fun x hx => Nat.le_trans hEk.size (hF5 x hx))
            have E06 : Ext w w6 := E03.trans E36
            have hl6 := hl.ext E06
            have hrd6' := Lib.hid hrd6
            clear hrd6
            go_wp2
            go_loopw [13] (fun t wr => ∃ k : Nat, k ≤ l.length ∧ t = .int .i64 k ∧ Ext w6 wr) (fun t _ => l.length - (intOf t).toNat)
            case atStart => exact ⟨0, Nat.zero_le _, rfl, Ext.refl _⟩
            case round =>
              obtain ⟨j, hj, rfl, hEj⟩ := hrel
              by_cases hlt7 : j < l.length
              · obtain ⟨x, hx⟩ : ∃ x, l[j]? = some x := ⟨_, List.getElem?_eq_getElem hlt7⟩
                obtain ⟨g6, rfl, hc6⟩ := hrd6'.out _ hEj j x hx
                obtain ⟨al, rfl, hca⟩ := (hl6.ext hEj) j x hx
                obtain ⟨hx0, hx1⟩ := hlb x (List.mem_of_getElem? hx)
                clear hx
                go_wp2
                refine Mix.wp_region_mixX 0 (.c 0 (.c 1 (.c 2 (.c 3 (.c 4 (.c 5 (.c 6 (.c 7 (.c 8 (.c 9 .done)))))))))) (by kernel_rfl) (by kernel_rfl) (Nat.zero_le _) (fun hap hapf => ?_)
                have d1 : ∀ z, (ap wr z).cell? (al.add j) = some (.int .u8 x) := fun z => (ap_ext wr z).cell hca
                have d2 : ∀ z, (ap wr z).cell? ⟨g6, j, none⟩ = some (.int .i64 x) := fun z => (ap_ext wr z).cell hc6
                repeat (refine Mix.mix_q rfl rfl rfl (fun K hK => ?_); (conv => arg 2; whnf); (first | (go_big_quiet_op; refine hK _ ?_) | (go_simp; refine hK _ ?_)); clear hK K)
                refine (Mix.mix_nil (fun w9 hE9 => ?_))
                clear hap hapf d1 d2 hca hc6
                (try dsimp only [Exit.then])
                go_wp2
                go_roundw
                case rel => exact ⟨j + 1, by omega, by go_num, hEj.trans ((Ext.refl _).drew'.trans hE9)⟩
                case measure => simp [intOf]; omega
              · have hjl : j = l.length := by omega
                subst hjl
                go_wp2_with fail
                refine (known04_any _).mono ?_
                rintro e w9 ⟨rfl, hE9⟩
                go_wp2_with fail
                refine (Len_bf ba none (List.replicate 0 0) [] va [] _ (hA3.turn (Turn.of_ext (E36.trans (hEj.trans hE9))) (G := []) (by simp))).mono ?_
                rw [List.length_replicate]
                rintro e w10 ⟨rfl, rfl⟩
                go_wp2
                go_ret
                exact ⟨rfl, E06.trans (hEj.trans hE9)⟩
      · have h3 : (nn : Int) ≤ 300 := by omega
        have h4 : (0 : Int) < (nn : Int) := by omega
        go_enter Try.func11, Try.ntmps11
        go_wp2_with fail
        refine mA.mono ?_
        rintro e w1 ⟨va, ba, rfl, hA1, hba, hva, hE01⟩
        clear mA
        go_wp2_with fail
        have mN : Calls Try.prog 33 #[.pointer none, .int .i64 (nn : Int)] w1 (NewB none (List.replicate nn 0) [] [] w1) := New_bf none [] [] nn (by omega) w1 rfl
        refine mN.mono ?_
        intro e w2 hN
        obtain ⟨b, F, rfl, hB2, hb, hF, hE2⟩ := hN.bf (w0 := w1.heap.size) (by simp) (Nat.le_refl _)
        clear hN mN
        go_wp2_with fail
        refine (OpenB_bf b none (List.replicate nn 0) [] F w2 hB2 (by simp <;> omega) (.inl rfl)).mono ?_
        intro e w3 hO
        obtain ⟨ao3, c3, F3, rfl, hrd3, hB3, hT3, hF3⟩ := oout_form hO
        rw [List.length_replicate]
        clear hO
        have E23 : Turn F w1 w3 := (Turn.of_ext hE2).seq hT3
        have hA3 := hA1.turn E23 (fun z hz hm => by have h1 := hF z hm; have h2 := (show Bf w1 ba none (List.replicate nn 0) [] _ from ⟨_, _, hA1, rfl⟩).lt z hz; omega)
        have E03 : Ext w w3 := Mix.Ext.trans' (hE01.trans hE2) hT3 (fun x hx => Nat.le_trans hE01.size (hF x hx))
        have hrd3' := Lib.hid hrd3
        clear hrd3
        go_wp2
        go_loopw [10] (fun t wr => ∃ k : Nat, k ≤ nn ∧ t = .int .i64 k ∧ Ext w3 wr) (fun t _ => nn - (intOf t).toNat)
        case atStart => exact ⟨0, Nat.zero_le _, rfl, Ext.refl _⟩
        case round =>
          obtain ⟨k, hk, rfl, hEk⟩ := hrel
          by_cases hlt : k < nn
          · first
              | exact absurd hlt (by omega)
              | (obtain ⟨g, rfl, hcx⟩ := hrd3'.out wr hEk k 0 (rep_get hlt)
                 go_wp2
                 go_roundw
                 case rel => exact ⟨k + 1, by omega, by go_num, hEk⟩
                 case measure => simp [intOf]; omega)
          · have hl4 := (hl.ext E03).ext hEk
            go_wp2_with fail
            refine (From_bf none [] [] ao cl l (by omega) wr rfl hl4 hlb).mono ?_
            intro e w5 hN
            obtain ⟨b5, F5, rfl, hB5, hb5, hF5, hE5⟩ := hN.bf (w0 := wr.heap.size) (by simp) (Nat.le_refl _)
            clear hN
            go_wp2_with fail
            refine (OpenB_bf b5 none l [] F5 w5 hB5 (by omega) (.inl rfl)).mono ?_
            intro e w6 hO
            obtain ⟨ao6, c6, F6, rfl, hrd6, hB6, hT6, hF6⟩ := oout_form hO
            clear hO
            have E36 : Ext w3 w6 := Mix.Ext.trans' (hEk.trans hE5) hT6 (fun x hx => Nat.le_trans hEk.size (hF5 x hx))
            have E06 : Ext w w6 := E03.trans E36
            have hl6 := hl.ext E06
            have hrd6' := Lib.hid hrd6
            clear hrd6
            go_wp2
            go_loopw [13] (fun t wr => ∃ k : Nat, k ≤ l.length ∧ t = .int .i64 k ∧ Ext w6 wr) (fun t _ => l.length - (intOf t).toNat)
            case atStart => exact ⟨0, Nat.zero_le _, rfl, Ext.refl _⟩
            case round =>
              obtain ⟨j, hj, rfl, hEj⟩ := hrel
              by_cases hlt7 : j < l.length
              · obtain ⟨x, hx⟩ : ∃ x, l[j]? = some x := ⟨_, List.getElem?_eq_getElem hlt7⟩
                obtain ⟨g6, rfl, hc6⟩ := hrd6'.out _ hEj j x hx
                obtain ⟨al, rfl, hca⟩ := (hl6.ext hEj) j x hx
                obtain ⟨hx0, hx1⟩ := hlb x (List.mem_of_getElem? hx)
                clear hx
                go_wp2
                refine Mix.wp_region_mixX 0 (.c 0 (.c 1 (.c 2 (.c 3 (.c 4 (.c 5 (.c 6 (.c 7 (.c 8 (.c 9 .done)))))))))) (by kernel_rfl) (by kernel_rfl) (Nat.zero_le _) (fun hap hapf => ?_)
                have d1 : ∀ z, (ap wr z).cell? (al.add j) = some (.int .u8 x) := fun z => (ap_ext wr z).cell hca
                have d2 : ∀ z, (ap wr z).cell? ⟨g6, j, none⟩ = some (.int .i64 x) := fun z => (ap_ext wr z).cell hc6
                repeat (refine Mix.mix_q rfl rfl rfl (fun K hK => ?_); (conv => arg 2; whnf); (first | (go_big_quiet_op; refine hK _ ?_) | (go_simp; refine hK _ ?_)); clear hK K)
                refine (Mix.mix_nil (fun w9 hE9 => ?_))
                clear hap hapf d1 d2 hca hc6
                (try dsimp only [Exit.then])
                go_wp2
                go_roundw
                case rel => exact ⟨j + 1, by omega, by go_num, hEj.trans ((Ext.refl _).drew'.trans hE9)⟩
                case measure => simp [intOf]; omega
              · have hjl : j = l.length := by omega
                subst hjl
                go_wp2_with fail
                refine (known04_any _).mono ?_
                rintro e w9 ⟨rfl, hE9⟩
                go_wp2_with fail
                refine (Len_bf ba none (List.replicate nn 0) [] va [] _ (hA3.turn (Turn.of_ext (E36.trans (hEj.trans hE9))) (G := []) (by simp))).mono ?_
                rw [List.length_replicate]
                rintro e w10 ⟨rfl, rfl⟩
                go_wp2
                go_ret
                exact ⟨rfl, E06.trans (hEj.trans hE9)⟩
  · have mA := New_none n (by omega) none w
    by_cases hneg : n < 0
    · go_enter Try.func11, Try.ntmps11
      go_wp2_with fail
      refine mA.mono ?_
      rintro e w1 ⟨rfl, rfl⟩
      clear mA
      have hE01 := Ext.refl w
      go_wp2_with fail
      have mN : Calls Try.prog 33 #[.pointer none, .int .i64 0] w (NewB none (List.replicate 0 0) [] [] w) := New_bf none [] [] 0 (by omega) w rfl
      refine mN.mono ?_
      intro e w2 hN
      obtain ⟨b, F, rfl, hB2, hb, hF, hE2⟩ := hN.bf (w0 := w.heap.size) (by simp) (Nat.le_refl _)
      clear hN mN
      go_wp2_with fail
      refine (OpenB_bf b none (List.replicate 0 0) [] F w2 hB2 (by simp <;> omega) (.inl rfl)).mono ?_
      intro e w3 hO
      obtain ⟨ao3, c3, F3, rfl, hrd3, hB3, hT3, hF3⟩ := oout_form hO
      rw [List.length_replicate]
      clear hO
      have E23 : Turn F w w3 := (Turn.of_ext hE2).seq hT3
      skip
      have E03 : Ext w w3 := Mix.Ext.trans' (hE01.trans hE2) hT3 (fun x hx => Nat.le_trans hE01.size (hF x hx))
      have hrd3' := Lib.hid hrd3
      clear hrd3
      go_wp2
      go_loopw [10] (fun t wr => ∃ k : Nat, k ≤ 0 ∧ t = .int .i64 k ∧ Ext w3 wr) (fun t _ => 0 - (intOf t).toNat)
      case atStart => exact ⟨0, Nat.zero_le _, rfl, Ext.refl _⟩
      case round =>
        obtain ⟨k, hk, rfl, hEk⟩ := hrel
        by_cases hlt : k < 0
        · first
            | exact absurd hlt (by omega)
            | (obtain ⟨g, rfl, hcx⟩ := hrd3'.out wr hEk k 0 (rep_get hlt)
               go_wp2
               go_roundw
               case rel => exact ⟨k + 1, by omega, by go_num, hEk⟩
               case measure => simp [intOf]; omega)
        · have hl4 := (hl.ext E03).ext hEk
          go_wp2_with fail
          refine (From_bf none [] [] ao cl l (by omega) wr rfl hl4 hlb).mono ?_
          intro e w5 hN
          obtain ⟨b5, F5, rfl, hB5, hb5, hF5, hE5⟩ := hN.bf (w0 := wr.heap.size) (by simp) (Nat.le_refl _)
          clear hN
          go_wp2_with fail
          refine (OpenB_bf b5 none l [] F5 w5 hB5 (by omega) (.inl rfl)).mono ?_
          intro e w6 hO
          obtain ⟨ao6, c6, F6, rfl, hrd6, hB6, hT6, hF6⟩ := oout_form hO
          clear hO
          have E36 : Ext w3 w6 := Mix.Ext.trans' (hEk.trans hE5) hT6 (fun x hx => Nat.le_trans hEk.size (hF5 x hx))
          have E06 : Ext w w6 := E03.trans E36
          have hl6 := hl.ext E06
          have hrd6' := Lib.hid hrd6
          clear hrd6
          go_wp2
          go_loopw [13] (fun t wr => ∃ k : Nat, k ≤ l.length ∧ t = .int .i64 k ∧ Ext w6 wr) (fun t _ => l.length - (intOf t).toNat)
          case atStart => exact ⟨0, Nat.zero_le _, rfl, Ext.refl _⟩
          case round =>
            obtain ⟨j, hj, rfl, hEj⟩ := hrel
            by_cases hlt7 : j < l.length
            · obtain ⟨x, hx⟩ : ∃ x, l[j]? = some x := ⟨_, List.getElem?_eq_getElem hlt7⟩
              obtain ⟨g6, rfl, hc6⟩ := hrd6'.out _ hEj j x hx
              obtain ⟨al, rfl, hca⟩ := (hl6.ext hEj) j x hx
              obtain ⟨hx0, hx1⟩ := hlb x (List.mem_of_getElem? hx)
              clear hx
              go_wp2
              refine Mix.wp_region_mixX 0 (.c 0 (.c 1 (.c 2 (.c 3 (.c 4 (.c 5 (.c 6 (.c 7 (.c 8 (.c 9 .done)))))))))) (by kernel_rfl) (by kernel_rfl) (Nat.zero_le _) (fun hap hapf => ?_)
              have d1 : ∀ z, (ap wr z).cell? (al.add j) = some (.int .u8 x) := fun z => (ap_ext wr z).cell hca
              have d2 : ∀ z, (ap wr z).cell? ⟨g6, j, none⟩ = some (.int .i64 x) := fun z => (ap_ext wr z).cell hc6
              repeat (refine Mix.mix_q rfl rfl rfl (fun K hK => ?_); (conv => arg 2; whnf); (first | (go_big_quiet_op; refine hK _ ?_) | (go_simp; refine hK _ ?_)); clear hK K)
              refine (Mix.mix_nil (fun w9 hE9 => ?_))
              clear hap hapf d1 d2 hca hc6
              (try dsimp only [Exit.then])
              go_wp2
              go_roundw
              case rel => exact ⟨j + 1, by omega, by go_num, hEj.trans ((Ext.refl _).drew'.trans hE9)⟩
              case measure => simp [intOf]; omega
            · have hjl : j = l.length := by omega
              subst hjl
              go_wp2_with fail
              refine (known04_any _).mono ?_
              rintro e w9 ⟨rfl, hE9⟩
              skip
              go_wp2
              go_ret
              exact ⟨rfl, E06.trans (hEj.trans hE9)⟩
    · have h3 : (1048576 : Int) < n := by omega
      have h4 : (300 : Int) < n := by omega
      go_enter Try.func11, Try.ntmps11
      go_wp2_with fail
      refine mA.mono ?_
      rintro e w1 ⟨rfl, rfl⟩
      clear mA
      have hE01 := Ext.refl w
      go_wp2_with fail
      have mN : Calls Try.prog 33 #[.pointer none, .int .i64 300] w (NewB none (List.replicate 300 0) [] [] w) := New_bf none [] [] 300 (by omega) w rfl
      refine mN.mono ?_
      intro e w2 hN
      obtain ⟨b, F, rfl, hB2, hb, hF, hE2⟩ := hN.bf (w0 := w.heap.size) (by simp) (Nat.le_refl _)
      clear hN mN
      go_wp2_with fail
      refine (OpenB_bf b none (List.replicate 300 0) [] F w2 hB2 (by simp <;> omega) (.inl rfl)).mono ?_
      intro e w3 hO
      obtain ⟨ao3, c3, F3, rfl, hrd3, hB3, hT3, hF3⟩ := oout_form hO
      rw [List.length_replicate]
      clear hO
      have E23 : Turn F w w3 := (Turn.of_ext hE2).seq hT3
      skip
      have E03 : Ext w w3 := Mix.Ext.trans' (hE01.trans hE2) hT3 (fun x hx => Nat.le_trans hE01.size (hF x hx))
      have hrd3' := Lib.hid hrd3
      clear hrd3
      go_wp2
      go_loopw [10] (fun t wr => ∃ k : Nat, k ≤ 300 ∧ t = .int .i64 k ∧ Ext w3 wr) (fun t _ => 300 - (intOf t).toNat)
      case atStart => exact ⟨0, Nat.zero_le _, rfl, Ext.refl _⟩
      case round =>
        obtain ⟨k, hk, rfl, hEk⟩ := hrel
        by_cases hlt : k < 300
        · first
            | exact absurd hlt (by omega)
            | (obtain ⟨g, rfl, hcx⟩ := hrd3'.out wr hEk k 0 (rep_get hlt)
               go_wp2
               go_roundw
               case rel => exact ⟨k + 1, by omega, by go_num, hEk⟩
               case measure => simp [intOf]; omega)
        · have hl4 := (hl.ext E03).ext hEk
          go_wp2_with fail
          refine (From_bf none [] [] ao cl l (by omega) wr rfl hl4 hlb).mono ?_
          intro e w5 hN
          obtain ⟨b5, F5, rfl, hB5, hb5, hF5, hE5⟩ := hN.bf (w0 := wr.heap.size) (by simp) (Nat.le_refl _)
          clear hN
          go_wp2_with fail
          refine (OpenB_bf b5 none l [] F5 w5 hB5 (by omega) (.inl rfl)).mono ?_
          intro e w6 hO
          obtain ⟨ao6, c6, F6, rfl, hrd6, hB6, hT6, hF6⟩ := oout_form hO
          clear hO
          have E36 : Ext w3 w6 := Mix.Ext.trans' (hEk.trans hE5) hT6 (fun x hx => Nat.le_trans hEk.size (hF5 x hx))
          have E06 : Ext w w6 := E03.trans E36
          have hl6 := hl.ext E06
          have hrd6' := Lib.hid hrd6
          clear hrd6
          go_wp2
          go_loopw [13] (fun t wr => ∃ k : Nat, k ≤ l.length ∧ t = .int .i64 k ∧ Ext w6 wr) (fun t _ => l.length - (intOf t).toNat)
          case atStart => exact ⟨0, Nat.zero_le _, rfl, Ext.refl _⟩
          case round =>
            obtain ⟨j, hj, rfl, hEj⟩ := hrel
            by_cases hlt7 : j < l.length
            · obtain ⟨x, hx⟩ : ∃ x, l[j]? = some x := ⟨_, List.getElem?_eq_getElem hlt7⟩
              obtain ⟨g6, rfl, hc6⟩ := hrd6'.out _ hEj j x hx
              obtain ⟨al, rfl, hca⟩ := (hl6.ext hEj) j x hx
              obtain ⟨hx0, hx1⟩ := hlb x (List.mem_of_getElem? hx)
              clear hx
              go_wp2
              refine Mix.wp_region_mixX 0 (.c 0 (.c 1 (.c 2 (.c 3 (.c 4 (.c 5 (.c 6 (.c 7 (.c 8 (.c 9 .done)))))))))) (by kernel_rfl) (by kernel_rfl) (Nat.zero_le _) (fun hap hapf => ?_)
              have d1 : ∀ z, (ap wr z).cell? (al.add j) = some (.int .u8 x) := fun z => (ap_ext wr z).cell hca
              have d2 : ∀ z, (ap wr z).cell? ⟨g6, j, none⟩ = some (.int .i64 x) := fun z => (ap_ext wr z).cell hc6
              repeat (refine Mix.mix_q rfl rfl rfl (fun K hK => ?_); (conv => arg 2; whnf); (first | (go_big_quiet_op; refine hK _ ?_) | (go_simp; refine hK _ ?_)); clear hK K)
              refine (Mix.mix_nil (fun w9 hE9 => ?_))
              clear hap hapf d1 d2 hca hc6
              (try dsimp only [Exit.then])
              go_wp2
              go_roundw
              case rel => exact ⟨j + 1, by omega, by go_num, hEj.trans ((Ext.refl _).drew'.trans hE9)⟩
              case measure => simp [intOf]; omega
            · have hjl : j = l.length := by omega
              subst hjl
              go_wp2_with fail
              refine (known04_any _).mono ?_
              rintro e w9 ⟨rfl, hE9⟩
              skip
              go_wp2
              go_ret
              exact ⟨rfl, E06.trans (hEj.trans hE9)⟩
end Go.Proofs.Ytoipadeeochbnaa
