import Derived.Test.YtoipadeeochbnaaOfB
namespace Go.Proofs.Ytoipadeeochbnaa
open Go.RowKit Mix
set_option linter.unusedVariables false
attribute [local go_sem] Mix.calm Oper.quietUpon Try.words_nil

set_option maxHeartbeats 2000000 in
set_option maxRecDepth 100000 in
theorem of05_any (ao : Option Addr) (cl : Nat) (l : List Int) (w : World) (hl0 : ArgInts w .i64 ao l) (hc : ao = none → cl = 0) (hlen : l.length ≤ 1000) :
    Calls Try.prog 71 #[.slice ao l.length cl] w (OfOut l w) := by
  have hE01 : Ext w (w.alloc (.cells #[.slice none 0 0, .slice none 0 0] 82)) := (Ext.refl w).alloc' _
  have hbx := World.alloc_heap_new w (.cells #[.slice none 0 0, .slice none 0 0] 82)
  go_enter Try.func71, Try.ntmps71
  go_wp2
  have hl := hl0.ext hE01
  have hz1 : w.heap.size < (w.alloc (.cells #[.slice none 0 0, .slice none 0 0] 82)).heap.size := by simp
  generalize w.alloc (.cells #[.slice none 0 0, .slice none 0 0] 82) = w1 at *
  go_loopw [4, 5] (fun s t wr => ∃ k : Nat, k ≤ l.length ∧ t = .int .i64 k ∧ wr.ownsRow w1.heap.size 25 1 s k ((l.take k).map (Value.int .i64)) ∧ (k = 0 → s = .slice none 0 0) ∧ Ext w1 wr) (fun _ t _ => l.length - (intOf t).toNat)
  case atStart => exact ⟨0, Nat.zero_le _, rfl, World.ownsRow_nil _ _ _ _, fun _ => rfl, Ext.refl _⟩
  case round =>
    obtain ⟨k, hk, rfl, hS, hS0, hEr⟩ := hrel
    by_cases hlt : k < l.length
    · obtain ⟨x, hx⟩ : ∃ x, l[k]? = some x := ⟨_, List.getElem?_eq_getElem hlt⟩
      obtain ⟨al, rfl, hcx⟩ := (hl.ext hEr) k x hx
      have hx' := Lib.hid hx
      clear hx
      obtain ⟨i0, hi, hz0, hz1, hz2⟩ := info_parts Try.infoSec
      go_wp2_with fail
      refine (of_any x _).mono ?_
      rintro e w2 ⟨rfl, hE2⟩
      have hS2 := ownsRow_turn (F := []) hS (Turn.of_ext hE2) (by simp)
      have hw2 := hE2.size
      have hwr := hEr.size
      go_wp2_with (at_builtin; refine wpList_append_own _ rfl _ _ 73 rfl w1.heap.size 25 i0 _ 1 8 Try.underlying73 hi hz0 hz1 hz2 rfl (by decide) _ _ _ rfl (hS2.alloc _) ⟨w2.heap.size, 0, none⟩ 1 1 [.int .i64 x] rfl rfl (cell_one_new _ _ _) (by simp [Value.oneCell']) (by unfold maxLen; omega) (by omega) (by simp; omega) ?_; intro v3 w3 hown3 hgrow3 _)
      have hE3 : Ext w1 w3 := by
        have hT : Turn u4.ownBlock.toList (w2.alloc (.cells #[.int .i64 x] 25)) w3 := turn_grownO hgrow3 (fun y e => by
          have e' : u4.ownBlock = some y := e
          simp [e'])
        refine (hEr.trans (hE2.trans ((Ext.refl w2).alloc' _))).trans' hT (fun y hy => ?_)
        exact (hS.lt y (by simpa using hy)).1
      have htk : (l.take k).map (Value.int .i64) ++ [.int .i64 x] = (l.take (k + 1)).map (Value.int .i64) := by rw [List.take_add_one, hx'.out]; simp
      rw [htk] at hown3
      clear hgrow3 hcx hS2
      go_wp2
      go_roundw
      case rel => exact ⟨k + 1, by omega, by go_num, hown3, fun h => by omega, hE3⟩
      case measure => simp [intOf]; omega
    · have hkn : k = l.length := by omega
      subst hkn
      rw [List.take_length] at hS
      clear hlt hk
      rcases ao with _ | a
      · obtain rfl : l = [] := by
          rcases l with _ | ⟨x, l⟩
          · rfl
          · obtain ⟨a, e, _⟩ := hl 0 x rfl
            cases e
        obtain rfl := hc rfl
        obtain rfl := hS0 rfl
        have hE3 := Ext.refl wr
        have hL3 : wr.ownsRow wr.heap.size 3 1 (.slice none 0 0) ([] : List Int).length (([] : List Int).map (Value.int .i64)) := World.ownsRow_nil _ _ _ _
        go_wp2_with fail
        refine (New_rc wr).mono ?_
        rintro e w4 ⟨rfl, hR4, hE4⟩
        have hS4 := ownsRow_turn (F := []) hS (Turn.of_ext (hE3.trans hE4)) (by simp)
        go_wp2_with fail
        refine (Of_bf (some _) [] _ (.slice none 0 0) _ w4 hR4 (own_base hS4) (fun h => by first | rfl | exact hS0 (by rw [h]; rfl)) (by first | omega | simp)).mono ?_
        rintro e w5 ⟨v, b, rfl, hB5, hb5, hv5, hE5⟩
        have hE15 : Ext w1 w5 := hEr.trans (hE3.trans (hE4.trans hE5))
        have hbx5 := hE15.blk hbx
        have c0 : w5.cell? ⟨w.heap.size, 0, none⟩ = some (.slice none 0 0) := by rw [blk_cell hbx5]; rfl
        have c1 : w5.cell? ⟨w.heap.size, 1, none⟩ = some (.slice none 0 0) := by rw [blk_cell hbx5]; rfl
        have f0 : w5.frozen? ⟨w.heap.size, 0, none⟩ = false := blk_free hbx5 0
        have f1 : w5.frozen? ⟨w.heap.size, 1, none⟩ = false := blk_free hbx5 1
        obtain ⟨aL, hAL⟩ : ∃ a : Option Addr, a = none := ⟨_, rfl⟩
        have hL5 := ownsRow_turn (F := []) hL3 (Turn.of_ext (hE4.trans hE5)) (by simp)
        have hsz1 := hE3.size
        have hsz2 := hE4.size
        have hszr := hEr.size
        go_wp2
        refine bodyPost_ret (v := _) (by simp [results, Try.results71, go_sem, *]; rfl) rfl ?_
        have hT : Turn [w.heap.size] w5 ((w5.setCell ⟨w.heap.size, 0, none⟩ (.slice none 0 0)).setCell ⟨w.heap.size, 1, none⟩ (.slice none 0 0)) := (turn_set (by simp)).seq (turn_set (by simp))
        have hLlt : ∀ y ∈ (.slice none 0 0 : Value).ownBlock.toList, wr.heap.size ≤ y ∧ y < (wr).heap.size := fun y hy => hL3.lt y (by simpa using hy)
        have hbf : ∀ x ∈ bfoot b v [(wr).heap.size], (wr).heap.size ≤ x := fun x hx => by
          simp only [bfoot, List.mem_cons, List.mem_append, List.not_mem_nil, or_false] at hx
          rcases hx with h | h | h
          · omega
          · have := hv5 x h; omega
          · omega
        refine ⟨b, _, v, _, _, rfl, hB5.turn hT (fun x hx => ?_), fun x hx => ?_, own_lower (ownsRow_turn hL5 hT (fun y e => ?_)) ?_, fun y hy hm => ?_, ?_⟩
        · have := hbf x hx
          simp only [List.mem_singleton]
          omega
        · have := hbf x hx
          omega
        · have := (hLlt y (by simp [e])).1
          simp only [List.mem_singleton]
          omega
        · omega
        · have h1 := (hLlt y hy).2
          have h2 := hbf y hm
          omega
        · exact Below.trans (hE01.trans hE15) (hT.below (B := w.heap.size) (by simp) (by have := hE15.size; omega))
      · obtain ⟨i1, hi, hz0, hz1', hz2⟩ := info_parts Try.infoInt
        go_wp2_with (at_builtin; refine wpList_append_own _ rfl _ _ 63 rfl wr.heap.size 3 i1 _ 1 8 Try.underlying63 hi hz0 hz1' hz2 rfl (by decide) _ _ _ rfl (World.ownsRow_nil _ _ _ _) a l.length cl (l.map (Value.int .i64)) rfl (by simp) (hl.ext hEr).news (ints_one l) (by unfold maxLen; omega) (by omega) (Nat.le_refl _) ?_; intro v3 w3 hL3 hg3 _)
        have hE3 : Ext wr w3 := (turn_grownO (F := []) hg3 (fun y e => by
          have e' : (Value.slice none 0 0).ownBlock = some y := e
          simp [Value.ownBlock] at e')).below (B := wr.heap.size) (by simp) (Nat.le_refl _)
        rw [Nat.zero_add] at hL3
        clear hg3
        go_wp2_with fail
        refine (New_rc w3).mono ?_
        rintro e w4 ⟨rfl, hR4, hE4⟩
        have hS4 := ownsRow_turn (F := []) hS (Turn.of_ext (hE3.trans hE4)) (by simp)
        go_wp2_with fail
        refine (Of_bf (some _) [] _ (u4) _ w4 hR4 (own_base hS4) (fun h => by first | rfl | exact hS0 (by rw [h]; rfl)) (by first | omega | simp)).mono ?_
        rintro e w5 ⟨v, b, rfl, hB5, hb5, hv5, hE5⟩
        have hE15 : Ext w1 w5 := hEr.trans (hE3.trans (hE4.trans hE5))
        have hbx5 := hE15.blk hbx
        have c0 : w5.cell? ⟨w.heap.size, 0, none⟩ = some (.slice none 0 0) := by rw [blk_cell hbx5]; rfl
        have c1 : w5.cell? ⟨w.heap.size, 1, none⟩ = some (.slice none 0 0) := by rw [blk_cell hbx5]; rfl
        have f0 : w5.frozen? ⟨w.heap.size, 0, none⟩ = false := blk_free hbx5 0
        have f1 : w5.frozen? ⟨w.heap.size, 1, none⟩ = false := blk_free hbx5 1
        obtain ⟨aL, cL, rfl⟩ := own_form hL3
        have hL5 := ownsRow_turn (F := []) hL3 (Turn.of_ext (hE4.trans hE5)) (by simp)
        have hsz1 := hE3.size
        have hsz2 := hE4.size
        have hszr := hEr.size
        go_wp2
        refine bodyPost_ret (v := _) (by simp [results, Try.results71, go_sem, *]; rfl) rfl ?_
        have hT : Turn [w.heap.size] w5 ((w5.setCell ⟨w.heap.size, 0, none⟩ (.slice aL l.length cL)).setCell ⟨w.heap.size, 1, none⟩ (.slice none 0 0)) := (turn_set (by simp)).seq (turn_set (by simp))
        have hLlt : ∀ y ∈ (.slice aL l.length cL : Value).ownBlock.toList, wr.heap.size ≤ y ∧ y < (w3).heap.size := fun y hy => hL3.lt y (by simpa using hy)
        have hbf : ∀ x ∈ bfoot b v [(w3).heap.size], (w3).heap.size ≤ x := fun x hx => by
          simp only [bfoot, List.mem_cons, List.mem_append, List.not_mem_nil, or_false] at hx
          rcases hx with h | h | h
          · omega
          · have := hv5 x h; omega
          · omega
        refine ⟨b, _, v, _, _, rfl, hB5.turn hT (fun x hx => ?_), fun x hx => ?_, own_lower (ownsRow_turn hL5 hT (fun y e => ?_)) ?_, fun y hy hm => ?_, ?_⟩
        · have := hbf x hx
          simp only [List.mem_singleton]
          omega
        · have := hbf x hx
          omega
        · have := (hLlt y (by simp [e])).1
          simp only [List.mem_singleton]
          omega
        · omega
        · have h1 := (hLlt y hy).2
          have h2 := hbf y hm
          omega
        · exact Below.trans (hE01.trans hE15) (hT.below (B := w.heap.size) (by simp) (by have := hE15.size; omega))
end Go.Proofs.Ytoipadeeochbnaa
