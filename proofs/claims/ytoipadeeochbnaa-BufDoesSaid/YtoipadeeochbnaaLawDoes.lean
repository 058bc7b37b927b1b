import Derived.Test.YtoipadeeochbnaaRef8
import Derived.Test.YtoipadeeochbnaaDeeds
import Derived.Test.YtoipadeeochbnaaLawSeen
import Derived.Test.YtoipadeeochbnaaLawNew
namespace Go.Proofs.Ytoipadeeochbnaa
open Go.RowKit Mix
set_option linter.unusedVariables false
attribute [local go_sem] Mix.calm Oper.quietUpon
/-- Between two deeds. -/
structure Did (w : World) (b r bx n k : Nat) (wr : World) (xs : List Int) (es : List (Int × Int)) (F : List Nat) (aL aE : Option Addr) (cL cE : Nat) : Prop where
  B : Bf wr b (some r) xs es F
  len : xs.length = n
  le : es.length ≤ k
  box : wr.heap[bx]? = some (.cells #[.slice aL n cL, .slice aE es.length cE] 82 (0, 0))
  T : RT wr (.slice aL n cL) (.slice aE es.length cE) xs es
  bF : bx ∉ F
  LF : ∀ y ∈ (Value.slice aL n cL).ownBlock.toList, y ∉ F ∧ y ≠ bx
  EF : ∀ y ∈ (Value.slice aE es.length cE).ownBlock.toList, y ∉ F ∧ y ≠ bx
  gF : ∀ y ∈ F, w.heap.size ≤ y
  gb : w.heap.size ≤ bx
  E : Ext w wr
theorem Did.next {w wr w3 w5 w7 wz : World} {b r bx n k : Nat} {xs xs3 : List Int} {es es3 : List (Int × Int)} {F F3 : List Nat} {aL aE aN a5 : Option Addr} {cL cE cN c5 n5 : Nat} (hJ : Did w b r bx n k wr xs es F aL aE cL cE)
    (hB3 : Bf w3 b (some r) xs3 es3 F3) (hT3 : Turn F wr w3) (hF3 : ∀ x ∈ F3, x ∈ F ∨ wr.heap.size ≤ x) (h3 : Ext w3 w5) (hn5 : n5 = es3.length) (hR5 : RT w5 (.slice aN n cN) (.slice a5 n5 c5) xs3 es3) (hz : w3.heap.size ≤ wz.heap.size)
    (hNL : NewOr wz (.slice aL n cL) (.slice aN n cN)) (hNE : NewOr wz (.slice aE es.length cE) (.slice a5 n5 c5)) (hle : es3.length ≤ k + 1) (hl3 : xs3.length = n)
    (k7 : Ext ((w5.setCell ⟨bx, 0, none⟩ (.slice aN n cN)).setCell ⟨bx, 1, none⟩ (.slice a5 n5 c5)) w7) : Did w b r bx n (k + 1) w7 xs3 es3 F3 aN a5 cN c5 := by
  subst hn5
  have hbl := blk_lt hJ.box
  have hbF : bx ∉ F3 := fun hm => (hF3 _ hm).elim hJ.bF (fun h => by omega)
  have b3 := (hT3.block bx hbl hJ.bF).trans hJ.box
  have b5 := h3.blk b3
  have T5 : Turn [bx] w5 ((w5.setCell ⟨bx, 0, none⟩ (.slice aN n cN)).setCell ⟨bx, 1, none⟩ (.slice a5 es3.length c5)) := (turn_set (by simp)).seq (turn_set (by simp))
  have hlt3 := hB3.lt
  have hb3 := hT3.size
  have hLt := fun y hy => (hJ.T.L.lt y (Option.mem_toList.1 hy)).2
  have hEt := fun y hy => (hJ.T.E.lt y (Option.mem_toList.1 hy)).2
  have hL : ∀ y ∈ (Value.slice aN n cN).ownBlock.toList, y ∉ F3 ∧ y ≠ bx := fun y hy => by
    rcases hNL y hy with h | h
    · have h1 := hJ.LF y h
      have h2 := hLt y h
      exact ⟨fun hm => (hF3 y hm).elim h1.1 (fun h => by omega), h1.2⟩
    · exact ⟨fun hm => by have := hlt3 y hm; omega, by omega⟩
  have hE : ∀ y ∈ (Value.slice a5 es3.length c5).ownBlock.toList, y ∉ F3 ∧ y ≠ bx := fun y hy => by
    rcases hNE y hy with h | h
    · have h1 := hJ.EF y h
      have h2 := hEt y h
      exact ⟨fun hm => (hF3 y hm).elim h1.1 (fun h => by omega), h1.2⟩
    · exact ⟨fun hm => by have := hlt3 y hm; omega, by omega⟩
  have E3 : Ext w w3 := Mix.Ext.trans' hJ.E hT3 hJ.gF
  exact ⟨((hB3.ext h3).turn T5 (fun y hy hm => hbF (by simp only [List.mem_singleton] at hm; exact hm ▸ hy))).ext k7, hl3, hle, k7.blk (blk_set (blk_set b5)),
    (hR5.turn T5 (fun y hy hm => (hL y hy).2 (by simpa using hm)) (fun y hy hm => (hE y hy).2 (by simpa using hm))).ext k7, hbF, hL, hE, ge_step hF3 hJ.gF hJ.E.size, hJ.gb,
    ((E3.trans h3).trans' T5 (fun y hy => by simp only [List.mem_singleton] at hy; subst hy; exact hJ.gb)).trans k7⟩
theorem Did.ext {w wr w2 : World} {b r bx n k : Nat} {xs : List Int} {es : List (Int × Int)} {F : List Nat} {aL aE : Option Addr} {cL cE : Nat} (hJ : Did w b r bx n k wr xs es F aL aE cL cE) (h : Ext wr w2) : Did w b r bx n k w2 xs es F aL aE cL cE :=
  ⟨hJ.B.ext h, hJ.len, hJ.le, h.blk hJ.box, hJ.T.ext h, hJ.bF, hJ.LF, hJ.EF, hJ.gF, hJ.gb, hJ.E.trans h⟩
set_option maxRecDepth 100000 in
set_option maxHeartbeats 2000000 in
theorem BufDoes_walk (ao : Option Addr) (cl : Nat) (l : List Int) (hc : ao = none → cl = 0) (ad : Option Addr) (nd cd : Nat) (hnd : nd ≤ maxLen) (w : World) (hA : ArgInts w .i64 ao l) (hD : ArgDeeds w ad nd) :
    Calls Try.prog 12 #[.slice ao l.length cl, .slice ad nd cd] w fun e w' => e = .returned (.bool true) ∧ Ext w w' := by
  by_cases hb1 : 40 < l.length
  · have hd1 : decide ((40 : Int) < (l.length : Int)) = true := by simp; omega
    go_enter Try.func12, Try.ntmps12
    go_wp2_with fail
    refine (known04_any _).mono ?_
    rintro e w1 ⟨rfl, hE1⟩
    go_wp2
    go_ret
    exact ⟨rfl, hE1⟩
  have hd1 : decide ((40 : Int) < (l.length : Int)) = false := by simp; omega
  by_cases hb2 : 60 < nd
  · have hd2 : decide ((60 : Int) < (nd : Int)) = true := by simp; omega
    go_enter Try.func12, Try.ntmps12
    go_wp2_with fail
    refine (known04_any _).mono ?_
    rintro e w1 ⟨rfl, hE1⟩
    go_wp2
    go_ret
    exact ⟨rfl, hE1⟩
  have hd2 : decide ((60 : Int) < (nd : Int)) = false := by simp; omega
  have hD' := Lib.hid hD
  clear hD
  go_enter Try.func12, Try.ntmps12
  go_wp2_with fail
  refine (known04_any _).mono ?_
  rintro e w0 ⟨rfl, hE0⟩
  go_wp2_with fail
  refine (of04_any ao cl l w0 (hA.ext hE0) hc (by omega)).mono ?_
  rintro e w1 ⟨b, r, v, Fr, tL, rfl, hB1, hgF, hLr, hap, hE1⟩
  have hR1 : RT w1 tL (.slice none 0 0) l [] := ⟨own_base hLr, World.ownsRow_nil _ _ _ _, fun _ => rfl⟩
  obtain ⟨aL, cL, rfl⟩ := own_form hLr
  have hlt1 := fun y (hy : y ∈ (Value.slice aL l.length cL).ownBlock.toList) => (hLr.lt y (Option.mem_toList.1 hy)).2
  have hB1' : Bf w1 b (some r) l [] _ := ⟨v, Fr, hB1, rfl⟩
  have hFlt := hB1'.lt
  have hEb := (Ext.refl w1).alloc' (.cells #[.slice aL l.length cL, .slice none 0 0] 82)
  have zs0 := hE0.size
  have zs1 := hE1.size
  have hJ0 : Did w b r w1.heap.size l.length 0 (w1.alloc (.cells #[.slice aL l.length cL, .slice none 0 0] 82)) l [] (bfoot b v Fr) aL none cL 0 :=
    ⟨hB1'.ext hEb, rfl, Nat.le_refl _, World.alloc_heap_new w1 _, hR1.ext hEb, fun hm => by have := hFlt _ hm; omega, fun y hy => ⟨hap y hy, by have := hlt1 y hy; omega⟩, fun y hy => by simp [Value.ownBlock] at hy,
      fun y hy => by have := hgF y hy; omega, by omega, (hE0.trans hE1).trans hEb⟩
  have hJ0' := Lib.hid hJ0
  clear hJ0 hEb hFlt hB1' hlt1 hR1 hap hLr hgF hB1 hE1 hE0 hA
  go_wp2
  go_loopw [7] (fun t wr => ∃ (k : Nat) (xs : List Int) (es : List (Int × Int)) (F : List Nat) (aL aE : Option Addr) (cL cE : Nat), k ≤ nd ∧ t = .int .i64 k ∧ Did w b r w1.heap.size l.length k wr xs es F aL aE cL cE) (fun t _ => nd - (intOf t).toNat)
  case atStart => exact ⟨0, _, _, _, _, _, _, _, Nat.zero_le _, rfl, hJ0'.out⟩
  case round =>
    clear hJ0'
    obtain ⟨k, xs, es, F, aL, aE, cL, cE, hk, rfl, hJ⟩ := hrel
    by_cases hlt : k < nd
    · obtain ⟨a, s, x, y, rfl, hx, hy, c0, c1, c2⟩ := hD'.out k hlt
      have c2w := c2
      have c0 : wr.cell? (a.add (k * 3)) = some (.bool s) := hJ.E.cell c0
      have c1 : wr.cell? ⟨(a.add (k * 3)).block, (a.add (k * 3)).off + 1, none⟩ = some (.int .i64 x) := hJ.E.cell c1
      have c2 : wr.cell? ⟨(a.add (k * 3)).block, (a.add (k * 3)).off + 2, none⟩ = some (.int .i64 y) := hJ.E.cell c2
      by_cases hy4 : y.tmod 4 = 0
      · have hd3 : (y.tmod 4 == 0) = true := beq_iff_eq.2 hy4
        cases s
        · go_wp2_with fail
          have hle := hJ.le
          have hlen := hJ.len
          have hsn := seenV_len xs.length (x)
          refine (Get_any b (some r) xs es F (x) wr hJ.B (by omega) (.inr (by omega))).mono ?_
          rintro e w3 ⟨rfl, F3, hB3, hT3, hF3⟩
          have b3 := (hT3.block _ (blk_lt hJ.box) hJ.bF).trans hJ.box
          have q0 : w3.cell? ⟨w1.heap.size, 0, none⟩ = some (.slice aL l.length cL) := by rw [blk_cell b3]; rfl
          have q1 : w3.cell? ⟨w1.heap.size, 1, none⟩ = some (.slice aE es.length cE) := by rw [blk_cell b3]; rfl
          have g0 : w3.frozen? ⟨w1.heap.size, 0, none⟩ = false := blk_free b3 0
          have g1 : w3.frozen? ⟨w1.heap.size, 1, none⟩ = false := blk_free b3 1
          have z3 := blk_lt b3
          have E3a := (Ext.refl w3).alloc' (.cells #[.int .i64 (getV xs (x))] 25)
          have hR3 := (hJ.T.turn hT3 (fun y hy => (hJ.LF y hy).1) (fun y hy => (hJ.EF y hy).1)).ext E3a
          have kx := World.alloc_heap_new w3 (.cells #[.int .i64 (getV xs (x))] 25)
          have mG := refGet_any (.slice aL l.length cL) (.slice aE es.length cE) xs es (x) (w3.alloc (.cells #[.int .i64 (getV xs (x))] 25)) hR3 (by omega) (by omega)
          go_wp2_with fail
          refine Calls.mono mG ?_
          clear mG
          rintro e w5 ⟨vE5, rfl, hR5, hN5, hE5⟩
          obtain ⟨a5, c5, rfl⟩ := own_formS hR5.E
          generalize hn5 : (es ++ seenV xs.length (x)).length = n5 at hR5 hN5 ⊢
          have hn5' := Lib.hid hn5
          clear hn5
          have b5 := hE5.blk (E3a.blk b3)
          have kx5 := hE5.blk kx
          have s0 : w5.cell? ⟨w1.heap.size, 0, none⟩ = some (.slice aL l.length cL) := by rw [blk_cell b5]; rfl
          have s1 : w5.cell? ⟨w1.heap.size, 1, none⟩ = some (.slice aE es.length cE) := by rw [blk_cell b5]; rfl
          have f0 : w5.frozen? ⟨w1.heap.size, 0, none⟩ = false := blk_free b5 0
          have f1 : w5.frozen? ⟨w1.heap.size, 1, none⟩ = false := blk_free b5 1
          have z5 := blk_lt b5
          have x5 : w5.cell? ⟨w3.heap.size, 0, none⟩ = some (.int .i64 (getV xs (x))) := by rw [blk_cell kx5]; rfl
          have z35 : w1.heap.size ≠ w3.heap.size := by omega
          have z36 : ¬ w3.heap.size = w1.heap.size := by omega
          have z53 := blk_lt kx5
          have hvv : (getV xs (x) == getV xs (x)) = true := beq_self_eq_true _
          go_wp2_with fail
          refine (OpenNil_any _ _).mono ?_
          rintro e w7 ⟨rfl, hE7⟩
          have hz5 := E3a.size
          have hN : Did w b r w1.heap.size l.length (k + 1) w7 xs (es ++ seenV xs.length (x)) F3 aL a5 cL c5 :=
            hJ.next hB3 hT3 hF3 (E3a.trans hE5) hn5'.out.symm hR5 hz5 (NewOr.refl _ _) hN5 (by rw [List.length_append]; omega) hlen (((Ext.refl _).alloc' _).trans hE7)
          have hN' := Lib.hid hN
          clear hN hR5 hN5 hB3 hT3 hF3 hJ b3 b5 kx kx5 hR3 E3a q0 q1 g0 g1 s0 s1 f0 f1 x5 c0 c1 c2 hE5 hE7
          go_wp2
          go_roundw
          case rel => exact ⟨k + 1, _, _, _, _, _, _, _, by omega, by go_num, hN'.out⟩
          case measure => simp [intOf]; omega
        · go_wp2_with fail
          refine (of_any y wr).mono ?_
          rintro e w2 ⟨rfl, hE2⟩
          replace hJ := hJ.ext hE2
          replace c2 : w2.cell? ⟨(a.add (k * 3)).block, (a.add (k * 3)).off + 2, none⟩ = some (.int .i64 y) := hE2.cell c2
          clear hE2 c0 c1
          have hle := hJ.le
          have hlen := hJ.len
          have hsn := seenV_len xs.length (x)
          go_wp2_with fail
          refine (Set_any b (some r) xs es F (x) y w2 hJ.B (by omega) (.inr (by omega))).mono ?_
          rintro e w3 ⟨rfl, F3, hB3, hT3, hF3⟩
          have hE03 : Ext w w3 := Mix.Ext.trans' hJ.E hT3 hJ.gF
          have c3 : w3.cell? ⟨(a.add (k * 3)).block, (a.add (k * 3)).off + 2, none⟩ = some (.int .i64 y) := hE03.cell c2w
          have b3 := (hT3.block _ (blk_lt hJ.box) hJ.bF).trans hJ.box
          have q0 : w3.cell? ⟨w1.heap.size, 0, none⟩ = some (.slice aL l.length cL) := by rw [blk_cell b3]; rfl
          have q1 : w3.cell? ⟨w1.heap.size, 1, none⟩ = some (.slice aE es.length cE) := by rw [blk_cell b3]; rfl
          have hR3 := hJ.T.turn hT3 (fun y hy => (hJ.LF y hy).1) (fun y hy => (hJ.EF y hy).1)
          go_wp2
          refine Mix.wp_region_mixX 0 (.c 0 (.c 1 (.c 2 (.c 3 (.c 4 (.c 5 (.c 6 (.e 7 (.e 8 .done))))))))) (by kernel_rfl) (by kernel_rfl) (Nat.zero_le _) (fun hap hapf => ?_)
          have d0 : ∀ z, (ap w3 z).cell? ⟨w1.heap.size, 0, none⟩ = some (.slice aL l.length cL) := fun z => (ap_ext w3 z).cell q0
          have d1 : ∀ z, (ap w3 z).cell? ⟨w1.heap.size, 1, none⟩ = some (.slice aE es.length cE) := fun z => (ap_ext w3 z).cell q1
          have d2 : ∀ z, (ap w3 z).cell? ⟨(a.add (k * 3)).block, (a.add (k * 3)).off + 2, none⟩ = some (.int .i64 y) := fun z => (ap_ext w3 z).cell c3
          repeat (refine Mix.mix_q rfl rfl rfl (fun K hK => ?_); (conv => arg 2; whnf); (first | (go_big_quiet_op; refine hK _ ?_) | (go_simp; refine hK _ ?_)); clear hK K)
          refine Mix.mix_one rfl rfl (fun w4 hE4 K hK => ?_)
          (conv => arg 2; whnf)
          have E4 : Ext w3 w4 := (Ext.refl w3).drew'.trans hE4
          have mS := refSet_any (.slice aL l.length cL) (.slice aE es.length cE) xs es (x) y w4 (hR3.ext E4) (by omega) (by omega)
          go_big_op
          refine Calls.mono mS ?_
          clear mS
          rintro e w5 ⟨vN, vE5, rfl, hR5, hNL, hN5, hE5⟩
          obtain ⟨aN, cN, rfl⟩ := own_form hR5.L
          obtain ⟨a5, c5, rfl⟩ := own_formS hR5.E
          have hsl : (setV xs (x) y).length = l.length := (setV_len _ _ _).trans hlen
          rw [hsl] at hR5 hNL ⊢
          generalize hn5 : (es ++ seenV xs.length (x)).length = n5 at hR5 hN5 ⊢
          have hn5' := Lib.hid hn5
          clear hn5
          have E5 := E4.trans hE5
          refine hK _ _ (Mix.ext_ap E5) ?_
          clear hK K
          refine Mix.mix_last rfl rfl (by kernel_rfl) (fun w6 hE6 K hK => ?_)
          (conv => arg 2; whnf)
          have E6 := E5.trans hE6
          have b6 := E6.blk b3
          have s0 : w6.cell? ⟨w1.heap.size, 0, none⟩ = some (.slice aL l.length cL) := by rw [blk_cell b6]; rfl
          have s1 : w6.cell? ⟨w1.heap.size, 1, none⟩ = some (.slice aE es.length cE) := by rw [blk_cell b6]; rfl
          have f0 : w6.frozen? ⟨w1.heap.size, 0, none⟩ = false := blk_free b6 0
          have f1 : w6.frozen? ⟨w1.heap.size, 1, none⟩ = false := blk_free b6 1
          go_big_op
          refine hK _ _ (fun w7 hE7 => ?_)
          clear hK K
          (try dsimp only [Exit.then])
          have hN : Did w b r w1.heap.size l.length (k + 1) w7 (setV xs (x) y) (es ++ seenV xs.length (x)) F3 aN a5 cN c5 :=
            hJ.next hB3 hT3 hF3 E6 hn5'.out.symm (hR5.ext hE6) E4.size hNL hN5 (by rw [List.length_append]; omega) hsl hE7
          have hN' := Lib.hid hN
          clear hN hR5 hNL hN5 hB3 hT3 hF3 hJ b3 b6 hR3 q0 q1 s0 s1 f0 f1 d0 d1 d2 c2 c3 hE5 hE7 hE6 E5 E6 E4 hE4 hap hapf
          go_wp2
          go_roundw
          case rel => exact ⟨k + 1, _, _, _, _, _, _, _, by omega, by go_num, hN'.out⟩
          case measure => simp [intOf]; omega
      · have hd3 : (y.tmod 4 == 0) = false := beq_eq_false_iff_ne.2 hy4
        have hd4 : (y.tmod 4 != 0) = true := bne_iff_ne.2 hy4
        cases s
        · go_wp2_with fail
          have hle := hJ.le
          have hlen := hJ.len
          have hsn := seenV_len xs.length (x.tmod ((l.length : Int) + 1))
          refine (Get_any b (some r) xs es F (x.tmod ((l.length : Int) + 1)) wr hJ.B (by omega) (.inr (by omega))).mono ?_
          rintro e w3 ⟨rfl, F3, hB3, hT3, hF3⟩
          have b3 := (hT3.block _ (blk_lt hJ.box) hJ.bF).trans hJ.box
          have q0 : w3.cell? ⟨w1.heap.size, 0, none⟩ = some (.slice aL l.length cL) := by rw [blk_cell b3]; rfl
          have q1 : w3.cell? ⟨w1.heap.size, 1, none⟩ = some (.slice aE es.length cE) := by rw [blk_cell b3]; rfl
          have g0 : w3.frozen? ⟨w1.heap.size, 0, none⟩ = false := blk_free b3 0
          have g1 : w3.frozen? ⟨w1.heap.size, 1, none⟩ = false := blk_free b3 1
          have z3 := blk_lt b3
          have E3a := (Ext.refl w3).alloc' (.cells #[.int .i64 (getV xs (x.tmod ((l.length : Int) + 1)))] 25)
          have hR3 := (hJ.T.turn hT3 (fun y hy => (hJ.LF y hy).1) (fun y hy => (hJ.EF y hy).1)).ext E3a
          have kx := World.alloc_heap_new w3 (.cells #[.int .i64 (getV xs (x.tmod ((l.length : Int) + 1)))] 25)
          have mG := refGet_any (.slice aL l.length cL) (.slice aE es.length cE) xs es (x.tmod ((l.length : Int) + 1)) (w3.alloc (.cells #[.int .i64 (getV xs (x.tmod ((l.length : Int) + 1)))] 25)) hR3 (by omega) (by omega)
          go_wp2_with fail
          refine Calls.mono mG ?_
          clear mG
          rintro e w5 ⟨vE5, rfl, hR5, hN5, hE5⟩
          obtain ⟨a5, c5, rfl⟩ := own_formS hR5.E
          generalize hn5 : (es ++ seenV xs.length (x.tmod ((l.length : Int) + 1))).length = n5 at hR5 hN5 ⊢
          have hn5' := Lib.hid hn5
          clear hn5
          have b5 := hE5.blk (E3a.blk b3)
          have kx5 := hE5.blk kx
          have s0 : w5.cell? ⟨w1.heap.size, 0, none⟩ = some (.slice aL l.length cL) := by rw [blk_cell b5]; rfl
          have s1 : w5.cell? ⟨w1.heap.size, 1, none⟩ = some (.slice aE es.length cE) := by rw [blk_cell b5]; rfl
          have f0 : w5.frozen? ⟨w1.heap.size, 0, none⟩ = false := blk_free b5 0
          have f1 : w5.frozen? ⟨w1.heap.size, 1, none⟩ = false := blk_free b5 1
          have z5 := blk_lt b5
          have x5 : w5.cell? ⟨w3.heap.size, 0, none⟩ = some (.int .i64 (getV xs (x.tmod ((l.length : Int) + 1)))) := by rw [blk_cell kx5]; rfl
          have z35 : w1.heap.size ≠ w3.heap.size := by omega
          have z36 : ¬ w3.heap.size = w1.heap.size := by omega
          have z53 := blk_lt kx5
          have hvv : (getV xs (x.tmod ((l.length : Int) + 1)) == getV xs (x.tmod ((l.length : Int) + 1))) = true := beq_self_eq_true _
          go_wp2_with fail
          refine (OpenNil_any _ _).mono ?_
          rintro e w7 ⟨rfl, hE7⟩
          have hz5 := E3a.size
          have hN : Did w b r w1.heap.size l.length (k + 1) w7 xs (es ++ seenV xs.length (x.tmod ((l.length : Int) + 1))) F3 aL a5 cL c5 :=
            hJ.next hB3 hT3 hF3 (E3a.trans hE5) hn5'.out.symm hR5 hz5 (NewOr.refl _ _) hN5 (by rw [List.length_append]; omega) hlen (((Ext.refl _).alloc' _).trans hE7)
          have hN' := Lib.hid hN
          clear hN hR5 hN5 hB3 hT3 hF3 hJ b3 b5 kx kx5 hR3 E3a q0 q1 g0 g1 s0 s1 f0 f1 x5 c0 c1 c2 hE5 hE7
          go_wp2
          go_roundw
          case rel => exact ⟨k + 1, _, _, _, _, _, _, _, by omega, by go_num, hN'.out⟩
          case measure => simp [intOf]; omega
        · go_wp2_with fail
          refine (of_any y wr).mono ?_
          rintro e w2 ⟨rfl, hE2⟩
          replace hJ := hJ.ext hE2
          replace c2 : w2.cell? ⟨(a.add (k * 3)).block, (a.add (k * 3)).off + 2, none⟩ = some (.int .i64 y) := hE2.cell c2
          clear hE2 c0 c1
          have hle := hJ.le
          have hlen := hJ.len
          have hsn := seenV_len xs.length (x.tmod ((l.length : Int) + 1))
          go_wp2_with fail
          refine (Set_any b (some r) xs es F (x.tmod ((l.length : Int) + 1)) y w2 hJ.B (by omega) (.inr (by omega))).mono ?_
          rintro e w3 ⟨rfl, F3, hB3, hT3, hF3⟩
          have hE03 : Ext w w3 := Mix.Ext.trans' hJ.E hT3 hJ.gF
          have c3 : w3.cell? ⟨(a.add (k * 3)).block, (a.add (k * 3)).off + 2, none⟩ = some (.int .i64 y) := hE03.cell c2w
          have b3 := (hT3.block _ (blk_lt hJ.box) hJ.bF).trans hJ.box
          have q0 : w3.cell? ⟨w1.heap.size, 0, none⟩ = some (.slice aL l.length cL) := by rw [blk_cell b3]; rfl
          have q1 : w3.cell? ⟨w1.heap.size, 1, none⟩ = some (.slice aE es.length cE) := by rw [blk_cell b3]; rfl
          have hR3 := hJ.T.turn hT3 (fun y hy => (hJ.LF y hy).1) (fun y hy => (hJ.EF y hy).1)
          go_wp2
          refine Mix.wp_region_mixX 0 (.c 0 (.c 1 (.c 2 (.c 3 (.c 4 (.c 5 (.c 6 (.e 7 (.e 8 .done))))))))) (by kernel_rfl) (by kernel_rfl) (Nat.zero_le _) (fun hap hapf => ?_)
          have d0 : ∀ z, (ap w3 z).cell? ⟨w1.heap.size, 0, none⟩ = some (.slice aL l.length cL) := fun z => (ap_ext w3 z).cell q0
          have d1 : ∀ z, (ap w3 z).cell? ⟨w1.heap.size, 1, none⟩ = some (.slice aE es.length cE) := fun z => (ap_ext w3 z).cell q1
          have d2 : ∀ z, (ap w3 z).cell? ⟨(a.add (k * 3)).block, (a.add (k * 3)).off + 2, none⟩ = some (.int .i64 y) := fun z => (ap_ext w3 z).cell c3
          repeat (refine Mix.mix_q rfl rfl rfl (fun K hK => ?_); (conv => arg 2; whnf); (first | (go_big_quiet_op; refine hK _ ?_) | (go_simp; refine hK _ ?_)); clear hK K)
          refine Mix.mix_one rfl rfl (fun w4 hE4 K hK => ?_)
          (conv => arg 2; whnf)
          have E4 : Ext w3 w4 := (Ext.refl w3).drew'.trans hE4
          have mS := refSet_any (.slice aL l.length cL) (.slice aE es.length cE) xs es (x.tmod ((l.length : Int) + 1)) y w4 (hR3.ext E4) (by omega) (by omega)
          go_big_op
          refine Calls.mono mS ?_
          clear mS
          rintro e w5 ⟨vN, vE5, rfl, hR5, hNL, hN5, hE5⟩
          obtain ⟨aN, cN, rfl⟩ := own_form hR5.L
          obtain ⟨a5, c5, rfl⟩ := own_formS hR5.E
          have hsl : (setV xs (x.tmod ((l.length : Int) + 1)) y).length = l.length := (setV_len _ _ _).trans hlen
          rw [hsl] at hR5 hNL ⊢
          generalize hn5 : (es ++ seenV xs.length (x.tmod ((l.length : Int) + 1))).length = n5 at hR5 hN5 ⊢
          have hn5' := Lib.hid hn5
          clear hn5
          have E5 := E4.trans hE5
          refine hK _ _ (Mix.ext_ap E5) ?_
          clear hK K
          refine Mix.mix_last rfl rfl (by kernel_rfl) (fun w6 hE6 K hK => ?_)
          (conv => arg 2; whnf)
          have E6 := E5.trans hE6
          have b6 := E6.blk b3
          have s0 : w6.cell? ⟨w1.heap.size, 0, none⟩ = some (.slice aL l.length cL) := by rw [blk_cell b6]; rfl
          have s1 : w6.cell? ⟨w1.heap.size, 1, none⟩ = some (.slice aE es.length cE) := by rw [blk_cell b6]; rfl
          have f0 : w6.frozen? ⟨w1.heap.size, 0, none⟩ = false := blk_free b6 0
          have f1 : w6.frozen? ⟨w1.heap.size, 1, none⟩ = false := blk_free b6 1
          go_big_op
          refine hK _ _ (fun w7 hE7 => ?_)
          clear hK K
          (try dsimp only [Exit.then])
          have hN : Did w b r w1.heap.size l.length (k + 1) w7 (setV xs (x.tmod ((l.length : Int) + 1)) y) (es ++ seenV xs.length (x.tmod ((l.length : Int) + 1))) F3 aN a5 cN c5 :=
            hJ.next hB3 hT3 hF3 E6 hn5'.out.symm (hR5.ext hE6) E4.size hNL hN5 (by rw [List.length_append]; omega) hsl hE7
          have hN' := Lib.hid hN
          clear hN hR5 hNL hN5 hB3 hT3 hF3 hJ b3 b6 hR3 q0 q1 s0 s1 f0 f1 d0 d1 d2 c2 c3 hE5 hE7 hE6 E5 E6 E4 hE4 hap hapf
          go_wp2
          go_roundw
          case rel => exact ⟨k + 1, _, _, _, _, _, _, _, by omega, by go_num, hN'.out⟩
          case measure => simp [intOf]; omega
    · have hle := hJ.le
      have hlen := hJ.len
      obtain ⟨v, Fr, hB, hFe⟩ := hJ.B
      go_wp2_with fail
      refine (Words_bf b (some r) xs es v Fr wr hB (by omega)).mono ?_
      intro e w3 hW
      obtain ⟨aw, cw, rfl, _, hE3⟩ := words_form hW
      rw [hlen]
      replace hJ := hJ.ext hE3
      have hB3 := hB.turn (Turn.of_ext hE3) (G := []) (by simp)
      clear hW hB hE3
      have q0 : w3.cell? ⟨w1.heap.size, 0, none⟩ = some (.slice aL l.length cL) := by rw [blk_cell hJ.box]; rfl
      have q1 : w3.cell? ⟨w1.heap.size, 1, none⟩ = some (.slice aE es.length cE) := by rw [blk_cell hJ.box]; rfl
      have hd5 : ((l.length : Int) == (l.length : Int)) = true := beq_self_eq_true _
      go_wp2
      refine Mix.wp_region_mixX 0 (.c 0 (.c 1 (.c 2 (.c 3 (.c 4 (.c 5 (.c 6 (.c 7 (.c 8 (.c 9 (.c 10 (.c 11 (.c 12 (.c 13 (.c 14 (.c 15 (.c 16 (.c 18 (.c 19 (.e 17 (.e 20 (.c 21 (.c 22 .done))))))))))))))))))))))) (by kernel_rfl) (by kernel_rfl) (Nat.zero_le _) (fun hap hapf => ?_)
      have d0 : ∀ z, (ap w3 z).cell? ⟨w1.heap.size, 0, none⟩ = some (.slice aL l.length cL) := fun z => (ap_ext w3 z).cell q0
      have d1 : ∀ z, (ap w3 z).cell? ⟨w1.heap.size, 1, none⟩ = some (.slice aE es.length cE) := fun z => (ap_ext w3 z).cell q1
      have hBz : ∀ z, BufAt (ap w3 z) b (some r) xs es v Fr := fun z => hB3.turn (Turn.of_ext (ap_ext w3 z)) (G := []) (by simp)
      have hTr : ∀ z, Calls Try.prog 64 #[.pointer (some ⟨b, 0, none⟩)] (ap w3 z) fun e w' => e = .returned (.pointer (some ⟨r, 0, none⟩)) ∧ ap w3 z = w' := fun z => Trace_bf b _ _ _ _ _ _ (hBz z)
      have hLn : ∀ z, Calls Try.prog 37 #[.pointer (some ⟨b, 0, none⟩)] (ap w3 z) fun e w' => e = .returned (.int .i64 l.length) ∧ ap w3 z = w' := fun z => hlen ▸ Len_bf b _ _ _ _ _ _ (hBz z)
      repeat (refine Mix.mix_q rfl rfl rfl (fun K hK => ?_); (conv => arg 2; whnf); (first | (go_big_quiet_op; refine hK _ ?_) | (go_simp; refine hK _ ?_)); clear hK K)
      (refine Mix.mix_c rfl rfl (fun K hK => ?_); (conv => arg 2; whnf); go_simp; apply Exists.intro; refine ⟨fun _ => ?_, hK _ ?_⟩; exact Mix.se (hLn _); clear hK K)
      repeat (refine Mix.mix_q rfl rfl rfl (fun K hK => ?_); (conv => arg 2; whnf); (first | (go_big_quiet_op; refine hK _ ?_) | (go_simp; refine hK _ ?_)); clear hK K)
      (refine Mix.mix_c rfl rfl (fun K hK => ?_); (conv => arg 2; whnf); go_simp; apply Exists.intro; refine ⟨fun _ => ?_, hK _ ?_⟩; exact Mix.se (hTr _); clear hK K)
      repeat (refine Mix.mix_q rfl rfl rfl (fun K hK => ?_); (conv => arg 2; whnf); (first | (go_big_quiet_op; refine hK _ ?_) | (go_simp; refine hK _ ?_)); clear hK K)
      refine Mix.mix_one rfl rfl (fun w5 hE5 K hK => ?_)
      (conv => arg 2; whnf)
      have E5 : Ext w3 w5 := (Ext.refl w3).drew'.trans hE5
      have hB5 := hB3.turn (Turn.of_ext E5) (G := []) (by simp)
      go_big_op
      refine (Events_rc r es _ w5 hB5.rc (by omega)).mono ?_
      rintro e w6 ⟨v6, rfl, hr6, _, hE6⟩
      have E6 := E5.trans hE6
      refine hK _ _ (Mix.ext_ap E6) ?_
      clear hK K
      refine Mix.mix_one rfl rfl (fun w7 hE7 K hK => ?_)
      (conv => arg 2; whnf)
      go_big_op
      have E7 := E6.trans hE7
      refine (evSame_any v6 (.slice aE es.length cE) es w7 (own_base (ownsRow_turn hr6 (F := []) (Turn.of_ext hE7) (by simp))) (hJ.T.ext E7).E (by omega)).mono ?_
      rintro e w8 ⟨rfl, hE8⟩
      have E8 := E7.trans hE8
      refine hK _ _ (Mix.ext_ap E8) ?_
      clear hK K
      repeat (refine Mix.mix_q rfl rfl rfl (fun K hK => ?_); (conv => arg 2; whnf); (first | (go_big_quiet_op; refine hK _ ?_) | (go_simp; refine hK _ ?_)); clear hK K)
      refine Mix.mix_nil (fun w9 hE9 => ?_)
      (try dsimp only [Exit.then])
      have E9 := E8.trans hE9
      replace hJ := hJ.ext E9
      replace hB3 := hB3.turn (Turn.of_ext E9) (G := []) (by simp)
      clear hap hapf d0 d1 hBz hTr hLn hB5 hr6 E5 E6 E7 E8 hE5 hE6 hE7 hE8 hE9 q0 q1 E9
      have q0 : w9.cell? ⟨w1.heap.size, 0, none⟩ = some (.slice aL l.length cL) := by rw [blk_cell hJ.box]; rfl
      have q1 : w9.cell? ⟨w1.heap.size, 1, none⟩ = some (.slice aE es.length cE) := by rw [blk_cell hJ.box]; rfl
      have mO := refOpen_any (.slice aL l.length cL) (.slice aE es.length cE) xs es w9 hJ.T (by omega) (by omega)
      go_wp2_with fail
      refine Calls.mono mO ?_
      clear mO
      rintro e w10 ⟨vE5, rfl, hR10, hN10, hE10⟩
      obtain ⟨a5, c5, rfl⟩ := own_formS hR10.E
      generalize hn5 : (es ++ opens xs.length).length = n5 at hR10 hN10 ⊢
      have hn5' := Lib.hid hn5
      clear hn5
      have b10 := hE10.blk hJ.box
      have s0 : w10.cell? ⟨w1.heap.size, 0, none⟩ = some (.slice aL l.length cL) := by rw [blk_cell b10]; rfl
      have s1 : w10.cell? ⟨w1.heap.size, 1, none⟩ = some (.slice aE es.length cE) := by rw [blk_cell b10]; rfl
      have f0 : w10.frozen? ⟨w1.heap.size, 0, none⟩ = false := blk_free b10 0
      have f1 : w10.frozen? ⟨w1.heap.size, 1, none⟩ = false := blk_free b10 1
      have TB : Turn [w1.heap.size] w10 ((w10.setCell ⟨w1.heap.size, 0, none⟩ (.slice aL l.length cL)).setCell ⟨w1.heap.size, 1, none⟩ (.slice a5 n5 c5)) := (turn_set (by simp)).seq (turn_set (by simp))
      have b11 : ((w10.setCell ⟨w1.heap.size, 0, none⟩ (.slice aL l.length cL)).setCell ⟨w1.heap.size, 1, none⟩ (.slice a5 n5 c5)).heap[w1.heap.size]? = some (.cells #[.slice aL l.length cL, .slice a5 n5 c5] 82 (0, 0)) := blk_set (blk_set b10)
      have hbl := blk_lt hJ.box
      have hEn : ∀ y ∈ (Value.slice a5 n5 c5).ownBlock.toList, y ∉ F ∧ y ≠ w1.heap.size := fun y hy => by
        rcases hN10 y hy with h | h
        · exact hJ.EF y h
        · exact ⟨fun hm => by have := hJ.B.lt y hm; omega, by omega⟩
      have hR11 := hR10.turn TB (fun y hy hm => (hJ.LF y hy).2 (by simpa using hm)) (fun y hy hm => (hEn y hy).2 (by simpa using hm))
      have hB11 := (hJ.B.ext hE10).turn TB (fun y hy hm => hJ.bF (by simp only [List.mem_singleton] at hm; exact hm ▸ hy))
      have hE011 : Ext w ((w10.setCell ⟨w1.heap.size, 0, none⟩ (.slice aL l.length cL)).setCell ⟨w1.heap.size, 1, none⟩ (.slice a5 n5 c5)) := (hJ.E.trans hE10).trans' TB (fun y hy => by simp only [List.mem_singleton] at hy; subst hy; exact hJ.gb)
      have hLF := hJ.LF
      have hgF := hJ.gF
      have hbF := hJ.bF
      clear hB3 q0 q1
      go_wp2
      generalize (w10.setCell ⟨w1.heap.size, 0, none⟩ (.slice aL l.length cL)).setCell ⟨w1.heap.size, 1, none⟩ (.slice a5 n5 c5) = w11 at *
      have hS0 : (fun W : World => W.heap[w1.heap.size]? = some (.cells #[.slice aL l.length cL, .slice a5 n5 c5] 82 (0, 0)) ∧ ∃ v, W.heap[b]? = some (.cells #[ptr (some r), v] 152 (0, 0))) w11 := ⟨b11, by obtain ⟨v, Fr, h, _⟩ := hB11; exact ⟨v, h.cell⟩⟩
      obtain ⟨S, hSe⟩ : ∃ S : World → Prop, S = fun W : World => W.heap[w1.heap.size]? = some (.cells #[.slice aL l.length cL, .slice a5 n5 c5] 82 (0, 0)) ∧ ∃ v, W.heap[b]? = some (.cells #[ptr (some r), v] 152 (0, 0)) := ⟨_, rfl⟩
      rw [← hSe] at hS0
      have hSx : ∀ W W', S W → Ext W W' → S W' := by rw [hSe]; exact fun W W' ⟨h, v, hv⟩ k => ⟨k.blk h, v, k.blk hv⟩
      have hSm : ∀ W, W.heap[w1.heap.size]? = some (.cells #[.slice aL l.length cL, .slice a5 n5 c5] 82 (0, 0)) → ∀ v, W.heap[b]? = some (.cells #[ptr (some r), v] 152 (0, 0)) → S W := by rw [hSe]; exact fun W h v hv => ⟨h, v, hv⟩
      have hSb : ∀ W, S W → W.heap[w1.heap.size]? = some (.cells #[.slice aL l.length cL, .slice a5 n5 c5] 82 (0, 0)) := by rw [hSe]; exact fun W h => h.1
      have hSr : ∀ W, S W → ∃ v, W.heap[b]? = some (.cells #[ptr (some r), v] 152 (0, 0)) := by rw [hSe]; exact fun W h => h.2
      clear hSe
      haveI : Inhabited (Mix.Yw S) := ⟨⟨w11, hS0⟩⟩
      refine Mix.wp_region_mixY S (.c 0 (.c 2 (.c 3 (.e 1 (.e 4 (.c 5 (.c 6 (.c 7 (.c 9 (.c 10 (.e 8 (.e 11 (.c 12 (.c 13 .done)))))))))))))) (by kernel_rfl) (by kernel_rfl) hSx (hSx _ _ hS0 (Ext.drew w11)) ?_
      have d0 : ∀ y : Mix.Yw S, y.w.cell? ⟨w1.heap.size, 0, none⟩ = some (.slice aL l.length cL) := fun y => by rw [blk_cell (hSb _ y.h)]; rfl
      have d1 : ∀ y : Mix.Yw S, y.w.cell? ⟨w1.heap.size, 1, none⟩ = some (.slice a5 n5 c5) := fun y => by rw [blk_cell (hSb _ y.h)]; rfl
      have hTr : ∀ y : Mix.Yw S, Calls Try.prog 64 #[.pointer (some ⟨b, 0, none⟩)] y.w fun e w' => e = .returned (.pointer (some ⟨r, 0, none⟩)) ∧ y.w = w' := fun y => let ⟨v, hv⟩ := hSr _ y.h; Trace_cell b (some r) v y.w hv
      repeat (refine Mix.mix_q rfl rfl rfl (fun K hK => ?_); (conv => arg 2; whnf); (first | (go_big_quiet_op; refine hK _ ?_) | (go_simp; refine hK _ ?_)); clear hK K)
      refine Mix.mix_one rfl rfl (fun w12 hE12 K hK => ?_)
      (conv => arg 2; whnf)
      have E12 : Ext w11 w12 := (Ext.refl w11).drew'.trans hE12
      go_big_op
      refine (OpenB_bf b (some r) xs es F w12 (hB11.ext E12) (by omega) (.inr (by omega))).mono ?_
      intro e w13 hO
      obtain ⟨ao2, co2, F13, rfl, hcO, hB13, hT13, hF13⟩ := oout_form hO
      clear hO
      have b13 := (hT13.block w1.heap.size (blk_lt (E12.blk b11)) hbF).trans (E12.blk b11)
      have hR13 := (hR11.ext E12).turn hT13 (fun y hy => (hLF y hy).1) (fun y hy => (hEn y hy).1)
      have hE13 : Ext w w13 := Mix.Ext.trans' (hE011.trans E12) hT13 hgF
      obtain ⟨v13, Fr13, hB13', _⟩ := hB13
      refine hK _ _ (Mix.yes (hSm _ b13 _ hB13'.cell)) ?_
      clear hK K
      refine Mix.mix_one rfl rfl (fun w14 hE14 K hK => ?_)
      (conv => arg 2; whnf)
      have aO : ArgInts w14 .i64 ao2 xs := fun i x hx => by
        obtain ⟨g, rfl, hc⟩ := hcO w14 hE14 i x hx
        have e : ((⟨g, 0, none⟩ : Addr).add i) = ⟨g, i, none⟩ := by simp [Addr.add]; exact fun h => h.symm
        exact ⟨⟨g, 0, none⟩, rfl, by rw [e]; exact hc⟩
      have aL14 : ArgInts w14 .i64 aL xs := fun i x hx => by
        have hi := (List.getElem?_eq_some_iff.1 hx).1
        have rL := (hR13.ext hE14).L
        obtain ⟨gL, pL, eL⟩ := ownsRow_form rL (by omega)
        have e1 := (Value.slice.inj eL).1
        subst e1
        exact ⟨⟨gL, 0, none⟩, rfl, rL.cells (g := gL) rfl i (.int .i64 x) (by simp [hx])⟩
      have mN := numSame_any ao2 aL co2 cL xs w14 aO aL14 (by omega)
      rw [hlen] at mN
      go_big_op
      try rw [hlen]
      refine Calls.mono mN ?_
      clear mN
      rintro e w15 ⟨rfl, hE15⟩
      have E15 := hE14.trans hE15
      refine hK _ _ (Mix.yes (hSx _ _ (hSm _ b13 _ hB13'.cell) E15)) ?_
      clear hK K
      repeat (refine Mix.mix_q rfl rfl rfl (fun K hK => ?_); (conv => arg 2; whnf); (first | (go_big_quiet_op; refine hK _ ?_) | (go_simp; refine hK _ ?_)); clear hK K)
      (refine Mix.mix_c rfl rfl (fun K hK => ?_); (conv => arg 2; whnf); go_simp; apply Exists.intro; refine ⟨fun _ => ?_, hK _ ?_⟩; exact Mix.se (hTr _); clear hK K)
      repeat (refine Mix.mix_q rfl rfl rfl (fun K hK => ?_); (conv => arg 2; whnf); (first | (go_big_quiet_op; refine hK _ ?_) | (go_simp; refine hK _ ?_)); clear hK K)
      refine Mix.mix_one rfl rfl (fun w16 hE16 K hK => ?_)
      (conv => arg 2; whnf)
      have E16 := E15.trans hE16
      go_big_op
      refine (Events_rc r _ _ w16 (hB13'.turn (Turn.of_ext E16) (G := []) (by simp)).rc (by rw [List.length_append, opens_len]; omega)).mono ?_
      rintro e w17 ⟨v17, rfl, hr17, _, hE17⟩
      have E17 := E16.trans hE17
      refine hK _ _ (Mix.yes (hSx _ _ (hSm _ b13 _ hB13'.cell) E17)) ?_
      clear hK K
      refine Mix.mix_one rfl rfl (fun w18 hE18 K hK => ?_)
      (conv => arg 2; whnf)
      have E18 := E17.trans hE18
      go_big_op
      refine (evSame_any v17 (.slice a5 n5 c5) _ w18 (own_base (ownsRow_turn hr17 (F := []) (Turn.of_ext hE18) (by simp))) (hR13.ext E18).E (by rw [List.length_append, opens_len]; omega)).mono ?_
      rintro e w19 ⟨rfl, hE19⟩
      have E19 := E18.trans hE19
      refine hK _ _ (Mix.yes (hSx _ _ (hSm _ b13 _ hB13'.cell) E19)) ?_
      clear hK K
      repeat (refine Mix.mix_q rfl rfl rfl (fun K hK => ?_); (conv => arg 2; whnf); (first | (go_big_quiet_op; refine hK _ ?_) | (go_simp; refine hK _ ?_)); clear hK K)
      refine Mix.mix_nil (fun w20 hE20 => ?_)
      (try dsimp only [Exit.then])
      have E020 := (hE13.trans E19).trans hE20
      clear d0 d1 hTr
      go_wp2
      go_ret
      exact ⟨rfl, E020⟩
end Go.Proofs.Ytoipadeeochbnaa
