import Derived.Test.YtoipadeeochbnaaRef7
namespace Go.Proofs.Ytoipadeeochbnaa
open Go.RowKit Mix
set_option linter.unusedVariables false
attribute [local go_sem] Mix.calm Oper.quietUpon
set_option maxRecDepth 100000 in
set_option maxHeartbeats 2000000 in
theorem places_any (ao : Option Addr) (cl : Nat) (l : List Int) (hc : ao = none → cl = 0) (hz : ∀ x ∈ l, In64 x) (hl : l.length ≤ 40) (a s f t : Int) (ha : In64 a) (hs : In64 s) (w : World) (hA : ArgInts w .i64 ao l) :
    Calls Try.prog 70 #[.slice ao l.length cl, .int .i64 a, .int .i64 s, .int .i64 f, .int .i64 t] w fun e w' => e = .returned (.bool true) ∧ Ext w w' := by
  have hz' := Lib.hid hz
  clear hz
  have blo := clipI_bd f l.length
  have bhi := clipI_bd t l.length
  obtain ⟨lo, hlo⟩ : ∃ lo, clipI f 0 l.length = lo := ⟨_, rfl⟩
  obtain ⟨hi, hhi⟩ : ∃ hi, clipI t 0 l.length = hi := ⟨_, rfl⟩
  rw [hlo] at blo
  rw [hhi] at bhi
  obtain ⟨bl0, bl1⟩ := blo
  obtain ⟨bh0, bh1⟩ := bhi
  have hlo' := Lib.hid hlo
  have hhi' := Lib.hid hhi
  clear hlo hhi
  have hN : winN lo hi ≤ 40 := by unfold winN; omega
  go_enter Try.func70, Try.ntmps70
  go_wp2_with fail
  refine (of05_any ao cl l w hA hc (by omega)).mono ?_
  rintro e w1 ⟨b, r, v, Fr, tL, rfl, hB1, hgF, hLr, hap, hE1⟩
  have hR1 : RT w1 tL (.slice none 0 0) l [] := ⟨own_base hLr, World.ownsRow_nil _ _ _ _, fun _ => rfl⟩
  obtain ⟨aL, cL, rfl⟩ := own_form hLr
  have hlt1 := fun y (hy : y ∈ (Value.slice aL l.length cL).ownBlock.toList) => (hLr.lt y (Option.mem_toList.1 hy)).2
  have hB1' : Bf w1 b (some r) l [] _ := ⟨v, Fr, hB1, rfl⟩
  generalize bfoot b v Fr = F1 at *
  clear hB1 hLr hA
  have hgF' := Lib.hid hgF
  have hap' := Lib.hid hap
  have hlt1' := Lib.hid hlt1
  clear hgF hap hlt1
  have hEb := (Ext.refl w1).alloc' (.cells #[.slice aL l.length cL, .slice none 0 0] 82)
  have kb := World.alloc_heap_new w1 (.cells #[.slice aL l.length cL, .slice none 0 0] 82)
  have hB2 := hB1'.ext hEb
  have hR2 := hR1.ext hEb
  have hE2 := hE1.trans hEb
  have z1 := blk_lt kb
  have hF1 := hB1'.lt
  have hF1' := Lib.hid hF1
  have hs1 := hEb.size
  go_wp2_with fail
  refine (of_any a _).mono ?_
  rintro e w3 ⟨rfl, hE3⟩
  have kb3 := hE3.blk kb
  have hB3 := hB2.ext hE3
  have hR3 := hR2.ext hE3
  have hE03 := hE2.trans hE3
  have hs3 := hE3.size
  clear hB2 hR2 hE2 kb hE3 hB1' hR1 hF1 hEb
  have mL := Load_bf b (some r) l [] F1 a f t ha hz'.out (by omega) (.inr (by simp; omega)) w3 hB3
  rw [hlo'.out, hhi'.out] at mL
  go_wp2_with fail
  refine Calls.mono mL ?_
  clear mL
  rintro e w4 ⟨rfl, F4, hB4, hT4, hF4⟩
  have kb4 : w4.heap[w1.heap.size]? = _ := (hT4.block w1.heap.size (blk_lt kb3) (fun hm => by have := hF1'.out _ hm; omega)).trans kb3
  have hR4 : RT w4 (.slice aL l.length cL) (.slice none 0 0) l [] := hR3.turn hT4 (fun y hy => hap'.out y hy) (fun y hy => by simp [Value.ownBlock] at hy)
  have hE04 : Ext w w4 := Below.trans hE03 (hT4.below (B := w.heap.size) hgF'.out hE03.size)
  have hg4 : ∀ y ∈ F4, w.heap.size ≤ y := fun y hy => (hF4 y hy).elim (fun h => hgF'.out y h) (fun h => Nat.le_trans hE03.size h)
  have hLF4 : ∀ y ∈ (Value.slice aL l.length cL).ownBlock.toList, y ∉ F4 := fun y hy hm => by
    rcases hF4 y hm with h | h
    · exact hap'.out y hy h
    · have := hlt1'.out y hy
      omega
  have hB4lt := hB4.lt
  have eX : In64 (loadV l a lo hi) := by
    rw [loadV_eq]
    split
    · exact getV_in hz'.out _
    · simp [In64]
  generalize hxv : loadV l a lo hi = xv at *
  have hxv' := Lib.hid hxv
  clear hxv hT4 hF4 hB3 hR3 hE03 kb3
  have E4a := (Ext.refl w4).alloc' (.cells #[.int .i64 xv] 25)
  have kx := World.alloc_heap_new w4 (.cells #[.int .i64 xv] 25)
  have kbA := E4a.blk kb4
  have hBA := hB4.ext E4a
  have hRA := hR4.ext E4a
  have hE0A := hE04.trans E4a
  have q0 : w4.cell? ⟨w1.heap.size, 0, none⟩ = some (.slice aL l.length cL) := by rw [blk_cell kb4]; rfl
  have q1 : w4.cell? ⟨w1.heap.size, 1, none⟩ = some (.slice none 0 0) := by rw [blk_cell kb4]; rfl
  have zb := blk_lt kb4
  have mR := refLoad_any (.slice aL l.length cL) (.slice none 0 0) l [] a f t (w4.alloc (.cells #[.int .i64 xv] 25)) hRA (by omega) (by simp)
  rw [hlo'.out, hhi'.out, hxv'.out] at mR
  go_wp2_with fail
  refine Calls.mono mR ?_
  clear mR
  rintro e w5 ⟨vE, rfl, hR5, hN5, hE5⟩
  obtain ⟨aE, cE, rfl⟩ := own_formS hR5.E
  obtain ⟨es1, hes1⟩ : ∃ es1, es1 = [] ++ winE lo hi := ⟨_, rfl⟩
  have les1 : es1.length ≤ 41 := by rw [hes1, List.nil_append, winE_len]; omega
  rw [← hes1] at hR5 hN5 hB4 hBA ⊢
  have hes1' := Lib.hid hes1
  clear hes1
  generalize hn1 : es1.length = n1 at hR5 hN5 ⊢
  clear hn1
  have E5a := (Ext.refl w5).alloc' (.cells #[.slice aL l.length cL, .slice aE n1 cE] 82)
  have kt := World.alloc_heap_new w5 (.cells #[.slice aL l.length cL, .slice aE n1 cE] 82)
  have kx5 := hE5.blk kx
  have hB5 := (hBA.ext hE5).ext E5a
  have hR5a := hR5.ext E5a
  have kx5a := E5a.blk kx5
  have hE05 := (hE0A.trans hE5).trans E5a
  have zs5 := hE5.size
  simp only [World.size_alloc] at zs5
  clear kb4 q0 q1 kbA hBA hRA hE0A kx kx5 E4a hE04 hB4 hR4
  go_wp2_with fail
  refine (of_any a _).mono ?_
  rintro e w6 ⟨rfl, hE6⟩
  go_wp2_with fail
  refine (of_any s _).mono ?_
  rintro e w7 ⟨rfl, hE7⟩
  have kt7 := hE7.blk (hE6.blk kt)
  have kx7 := hE7.blk (hE6.blk kx5a)
  have hB7 := (hB5.ext hE6).ext hE7
  have hR7 := (hR5a.ext hE6).ext hE7
  have hE07 := (hE05.trans hE6).trans hE7
  clear kt kx5a hB5 hR5a hE05 hE6 hE7 hE5 E5a hR5
  have mS := Store_bf b (some r) l es1 F4 a s f t ha hs hz'.out (by omega) (.inr (by omega)) w7 hB7
  rw [hlo'.out, hhi'.out] at mS
  go_wp2_with fail
  refine Calls.mono mS ?_
  clear mS
  rintro e w8 ⟨rfl, F8, hB8, hT8, hF8⟩
  have hE08 : Ext w w8 := Below.trans hE07 (hT8.below (B := w.heap.size) hg4 hE07.size)
  have kt8 : w8.heap[w5.heap.size]? = _ := (hT8.block w5.heap.size (blk_lt kt7) (fun hm => by have := hB4lt _ hm; omega)).trans kt7
  have kx8 : w8.heap[w4.heap.size]? = _ := (hT8.block w4.heap.size (blk_lt kx7) (fun hm => by have := hB4lt _ hm; omega)).trans kx7
  have hR8 : RT w8 (.slice aL l.length cL) (.slice aE n1 cE) l es1 := hR7.turn hT8 hLF4 (fun y hy hm => by
    have := hB4lt _ hm
    rcases hN5 y hy with h | h
    · simp [Value.ownBlock] at h
    · simp only [World.size_alloc] at h
      omega)
  have r0 : w8.cell? ⟨w5.heap.size, 0, none⟩ = some (.slice aL l.length cL) := by rw [blk_cell kt8]; rfl
  have r1 : w8.cell? ⟨w5.heap.size, 1, none⟩ = some (.slice aE n1 cE) := by rw [blk_cell kt8]; rfl
  have r2 : w8.cell? ⟨w4.heap.size, 0, none⟩ = some (.int .i64 xv) := by rw [blk_cell kx8]; rfl
  clear kt7 kx7 hB7 hR7 hE07 hT8 hF8
  go_wp2_with fail
  refine (OpenNil_any xv _).mono ?_
  rintro e w9 ⟨rfl, hE9⟩
  have kt9 := hE9.blk kt8
  have r0 : w9.cell? ⟨w5.heap.size, 0, none⟩ = some (.slice aL l.length cL) := by rw [blk_cell kt9]; rfl
  have r1 : w9.cell? ⟨w5.heap.size, 1, none⟩ = some (.slice aE n1 cE) := by rw [blk_cell kt9]; rfl
  have mT := refStore_any (.slice aL l.length cL) (.slice aE n1 cE) l es1 a s f t hs w9 (hR8.ext hE9) (by omega) (by omega)
  rw [hlo'.out, hhi'.out] at mT
  have hxx : (xv == xv) = true := beq_self_eq_true xv
  go_wp2_with fail
  refine Calls.mono mT ?_
  clear mT
  rintro e w10 ⟨vL', vE', rfl, hR10, _, _, hE10⟩
  have hB10 := (hB8.ext hE9).ext hE10
  have hse : (es1 ++ winB lo hi).length ≤ 300 := by rw [List.length_append, winB_len]; omega
  have hsl : (storeV l a s lo hi).length ≤ 1000 := by unfold storeV; rw [layV_len]; omega
  go_wp2_with fail
  refine (same05_any b r vL' vE' _ _ _ w10 hB10 hR10 hsl (by omega)).mono ?_
  rintro e w11 ⟨rfl, hE11⟩
  go_wp2
  go_ret
  exact ⟨rfl, ((hE08.trans hE9).trans hE10).trans hE11⟩
end Go.Proofs.Ytoipadeeochbnaa
