import Derived.Test.YtoipadeeochbnaaBuf3
import Derived.WalkSpells
namespace Go.Proofs.Ytoipadeeochbnaa
open Go.RowKit Mix
set_option linter.unusedVariables false
attribute [local go_sem] Mix.calm Oper.quietUpon
theorem Try.words_nil (a : Option Addr) (n c : Nat) (w : World) : (binOp .eql 73 (.slice a n c) (.slice none 0 0)).run Try.prog w = .ok (.bool a.isNone) w := Lib.run_eql_slice_nil w 73 25 a n c 0 0 Try.underlying73
attribute [local go_sem] Try.words_nil
/-- What comes back is a new list of these words. -/
def WOut (xs : List Int) (w : World) (e : Ending) (w' : World) : Prop :=
  ∃ v, e = .returned v ∧ w'.ownsRow w.heap.size 25 1 v xs.length (xs.map (Value.int .i64)) ∧ (xs = [] → v = .slice none 0 0) ∧ Ext w w'
theorem ints_one (xs : List Int) : ∀ u ∈ xs.map (Value.int .i64), u.oneCell' = true := by
  intro u hu
  obtain ⟨x, _, rfl⟩ := List.mem_map.1 hu
  rfl
set_option maxRecDepth 100000 in
theorem Clone_any (v : Value) (xs : List Int) (w : World) (h : w.ownsRow 0 25 1 v xs.length (xs.map (Value.int .i64))) (hn : xs = [] → v = .slice none 0 0) (hl : xs.length ≤ 1048576) :
    Calls Try.prog 121 #[v] w (WOut xs w) := by
  rcases Nat.eq_zero_or_pos xs.length with h0 | h0
  · have hx : xs = [] := List.eq_nil_of_length_eq_zero h0
    obtain rfl := hn hx
    subst hx
    go_enter Try.func121, Try.ntmps121
    go_wp2
    go_ret
    exact ⟨_, rfl, World.ownsRow_nil _ _ _ _, fun _ => rfl, Ext.refl _⟩
  · obtain ⟨g, cp, rfl⟩ := ownsRow_form h h0
    obtain ⟨i0, hi, hz0, hz1, hz2⟩ := info_parts Try.infoSec
    have hl0 := World.ownsRow_lit (base := w.heap.size) (e := 25) (size := 1) w #[] 0 (Nat.le_refl _) (Nat.zero_le _) rfl
    have hcs := (h.alloc (.cells #[] 25)).cells (g := g) rfl
    go_enter Try.func121, Try.ntmps121
    go_wp2_with (at_builtin; refine wpList_append_own _ rfl _ _ 73 rfl w.heap.size 25 i0 _ 1 8 Try.underlying73 hi hz0 hz1 hz2 rfl (by decide) _ _ _ rfl hl0 ⟨g, 0, none⟩ xs.length cp (xs.map (Value.int .i64)) rfl (by simp) hcs (ints_one xs) (by unfold maxLen; omega) (by omega) (by simp) ?_; intro v' w1 hown' hgrow _)
    have hg : w.heap.size ≤ w.heap.size := Nat.le_refl _
    go_ret
    rw [Nat.zero_add] at hown'
    refine ⟨_, rfl, hown', fun h => by rw [h] at h0; simp at h0, ?_⟩
    have hT : Turn [w.heap.size] (w.alloc (.cells #[] 25)) w1 := turn_grownO hgrow (fun k e => by
      have e' : (Value.slice (some ⟨w.heap.size, 0, none⟩) 0 0).ownBlock = some k := e
      simp [Value.ownBlock] at e'
      simp [e'])
    exact Below.trans ((Ext.refl w).alloc' _) (hT.below (B := w.heap.size) (by simp) (by simp))
theorem Words_bf (b : Nat) (p : Option Nat) (xs : List Int) (es : List (Int × Int)) (v : Value) (Fr : List Nat) (w : World) (h : BufAt w b p xs es v Fr) (hl : xs.length ≤ 1048576) :
    Calls Try.prog 57 #[.pointer (some ⟨b, 0, none⟩)] w (WOut xs w) := by
  obtain ⟨a, c, rfl⟩ := own_form h.row
  have hc : w.cell? ⟨b, 1, none⟩ = some (.slice a xs.length c) := by rw [blk_cell h.cell]; rfl
  have hl' := Lib.hid hl
  clear hl
  go_enter Try.func57, Try.ntmps57
  go_wp2_with fail
  refine (Clone_any _ xs w h.row h.nil hl'.out).mono ?_
  rintro e w1 ⟨v, rfl, h1, h2, h3⟩
  go_wp2
  go_ret
  exact ⟨v, rfl, h1, h2, h3⟩
theorem Words_nil (w : World) : Calls Try.prog 57 #[.pointer none] w fun e w' => e = .returned (.slice none 0 0) ∧ w = w' := by
  go_enter Try.func57, Try.ntmps57
  go_wp2
  go_ret
  exact ⟨rfl, rfl⟩
set_option maxRecDepth 100000 in
theorem Of_bf (p : Option Nat) (es : List (Int × Int)) (Fr : List Nat) (v : Value) (xs : List Int) (w : World) (h : Rc w p es Fr) (hrow : w.ownsRow 0 25 1 v xs.length (xs.map (Value.int .i64))) (hn : xs = [] → v = .slice none 0 0) (hl : xs.length ≤ 1048576) :
    Calls Try.prog 56 #[ptr p, v] w (NewB p xs es Fr w) := by
  obtain ⟨a, c, rfl⟩ := own_form hrow
  have hlt := h.lt
  have hd : decide ((1048576 : Int) < (xs.length : Int)) = false := by simp; omega
  have hl' := Lib.hid hl
  clear hl
  show Calls _ _ #[.pointer (p.map fun r => ⟨r, 0, none⟩), _] _ _
  go_enter Try.func56, Try.ntmps56
  go_wp2_with fail
  refine (Clone_any _ xs w hrow hn hl'.out).mono ?_
  rintro e w1 ⟨v1, rfl, h1, h2, h3⟩
  obtain ⟨a1, c1, rfl⟩ := own_form h1
  go_wp2
  go_ret
  refine ⟨_, w1.heap.size, rfl, ⟨World.alloc_heap_new w1 _, ?_, h2, (h.ext h3).ext ((Ext.refl w1).alloc' _), ?_, ?_⟩, h3.size, ?_, h3.alloc' _⟩
  · obtain ⟨r1, r2⟩ := h1.alloc (.cells #[.pointer (p.map fun r => ⟨r, 0, none⟩), .slice a1 xs.length c1] 152)
    exact ⟨r1, r2.imp id (fun ⟨g, cap, cur, e, _, r⟩ => ⟨g, cap, cur, e, Nat.zero_le _, r⟩)⟩
  · intro hm
    rcases List.mem_append.1 hm with hm | hm
    · have := (h1.lt w1.heap.size (by simpa using hm)).2; omega
    · have := (h.ext h3).lt _ hm; omega
  · intro x hx hm
    have := (h1.lt x (by simpa using hx)).1
    have := hlt x hm
    omega
  · intro x hx
    exact (h1.lt x (by simpa using hx)).1
end Go.Proofs.Ytoipadeeochbnaa
