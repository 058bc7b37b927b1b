import Derived.Test.YtoipadeeochbnaaBuf2
namespace Go.Proofs.Ytoipadeeochbnaa
open Go.RowKit Mix
set_option linter.unusedVariables false
attribute [local go_sem] Mix.calm Oper.quietUpon
theorem Try.infoSec : (Try.prog.info? 25).map (fun i => (i.zero, i.size, i.bytes)) = some (some (.agg #[.int .i64 0]), 1, 8) := by kernel_rfl
/-- Behind the store of the longer list of words. -/
theorem bpush_end {w2 w5 w6 w7 w8 : World} {b : Nat} {p : Option Nat} {xs : List Int} {x : Int} {es : List (Int × Int)} {v : Value} {Fr : List Nat} {g cp : Nat} (h : BufAt w2 b p xs es v Fr) (E5 : Ext w2 w5)
    (hrow6 : w6.ownsRow 0 25 1 (.slice (some ⟨g, 0, none⟩) (xs.length + 1) cp) (xs.length + 1) (xs.map (Value.int .i64) ++ [.int .i64 x])) (hg6 : w5.grownBy w6 v.ownBlock) (hat6 : v.ownBlock = some g ∨ g = w5.heap.size)
    (hE7 : Ext w6 w7) (hE8 : Ext (w7.setCell ⟨b, 1, none⟩ (.slice (some ⟨g, 0, none⟩) (xs.length + 1) cp)) w8) :
    BufAt w8 b p (xs ++ [x]) es (.slice (some ⟨g, 0, none⟩) (xs.length + 1) cp) Fr ∧ Turn (b :: v.ownBlock.toList) w2 w8 ∧ (v.ownBlock = some g ∨ w2.heap.size ≤ g) := by
  have hl2 := blk_lt h.cell
  have hap := h.apart
  have hlt := fun y hy => (show Bf w2 b p xs es _ from ⟨_, _, h, rfl⟩).lt y hy
  have hgv : v.ownBlock = some g ∨ w2.heap.size ≤ g := by
    rcases hat6 with e | e
    · exact .inl e
    · have := E5.size; exact .inr (by omega)
  have hgb : b ≠ g := by
    rcases hgv with e | e
    · exact fun e' => hap.1 (by simp [e, e'])
    · omega
  have hvb : v.ownBlock ≠ some b := fun e => hap.1 (by simp [e])
  have hgF : g ∉ Fr := by
    rcases hgv with e | e
    · exact hap.2 g (by simp [e])
    · exact fun hm => by have := hlt g (by simp [bfoot, hm]); omega
  have hg0 : g < w6.heap.size := (hrow6.lt g rfl).2
  have h6b : w6.heap[b]? = w2.heap[b]? := (hg6.block b (Nat.lt_of_lt_of_le hl2 E5.size) (fun e => hvb e.symm)).trans (E5.block b hl2)
  have h7b : w7.heap[b]? = some (.cells #[ptr p, v] 152 (0, 0)) := hE7.blk (h6b.trans h.cell)
  have T8 : Turn (b :: v.ownBlock.toList) w2 w8 := ((((Turn.of_ext E5).seq (turn_grownO hg6 (fun k e => by simp [e]))).seq (Turn.of_ext hE7)).seq (turn_set (by simp))).seq (Turn.of_ext hE8)
  refine ⟨⟨?_, ?_, fun h0 => by simp at h0, ?_, ?_⟩, T8, hgv⟩
  · exact hE8.blk (by rw [blk_set h7b]; rfl)
  · have h7 := ownsRow_turn hrow6 ((Turn.of_ext (F := [b]) hE7).seq ((turn_set (by simp)).seq (Turn.of_ext hE8))) (fun y e => by
      simp only [Value.ownBlock, Option.some.injEq] at e
      subst e
      simp only [List.mem_singleton]
      exact fun e' => hgb e'.symm)
    rw [List.length_append, List.length_singleton, List.map_append]
    exact h7
  · refine h.rc.turn T8 (fun y hy hm => ?_)
    simp only [List.mem_cons, Option.mem_toList] at hm
    rcases hm with rfl | hm
    · exact hap.1 (by simp [hy])
    · exact hap.2 y (by simp [hm]) hy
  · refine ⟨?_, ?_⟩
    · simp only [Value.ownBlock, Option.toList_some, List.singleton_append, List.mem_cons, not_or]
      exact ⟨hgb, fun hm => hap.1 (by simp [hm])⟩
    · simp only [Value.ownBlock, Option.toList_some, List.mem_singleton]
      rintro y rfl
      exact hgF
/-- A new buffer: what it holds; its blocks are new, but for the recorder's. -/
def NewB (p : Option Nat) (xs : List Int) (es : List (Int × Int)) (Fr : List Nat) (w : World) (e : Ending) (w' : World) : Prop :=
  ∃ v b, e = .returned (.pointer (some ⟨b, 0, none⟩)) ∧ BufAt w' b p xs es v Fr ∧ w.heap.size ≤ b ∧ (∀ x ∈ v.ownBlock.toList, w.heap.size ≤ x) ∧ Ext w w'
set_option maxRecDepth 100000 in
set_option maxHeartbeats 1000000 in
theorem New_bf (p : Option Nat) (es : List (Int × Int)) (Fr : List Nat) (n : Nat) (hn : n ≤ 1048576) (w : World) (h : Rc w p es Fr) :
    Calls Try.prog 33 #[ptr p, .int .i64 (n : Int)] w (NewB p (List.replicate n 0) es Fr w) := by
  have hlt := h.lt
  show Calls _ _ #[.pointer (p.map fun r => ⟨r, 0, none⟩), _] _ _
  go_enter Try.func33, Try.ntmps33
  go_wp2
  have hB0 : BufAt (w.alloc (.cells #[.pointer (p.map fun r => ⟨r, 0, none⟩), .slice none 0 0] 152)) w.heap.size p [] es (.slice none 0 0) Fr :=
    ⟨World.alloc_heap_new w _, World.ownsRow_nil _ _ _ _, fun _ => rfl, h.ext ((Ext.refl w).alloc' _), by simp [Value.ownBlock]; exact fun hm => by have := hlt _ hm; omega, by simp [Value.ownBlock]⟩
  have hE0 : Ext w (w.alloc (.cells #[.pointer (p.map fun r => ⟨r, 0, none⟩), .slice none 0 0] 152)) := (Ext.refl w).alloc' _
  generalize w.alloc (.cells #[.pointer (p.map fun r => ⟨r, 0, none⟩), .slice none 0 0] 152) = w1 at *
  go_loopw [16] (fun t wr => ∃ (xs : List Int) (v : Value), xs.length ≤ n ∧ xs = List.replicate xs.length 0 ∧ t = .int .i64 xs.length ∧ BufAt wr w.heap.size p xs es v Fr ∧ (∀ x ∈ v.ownBlock.toList, w.heap.size ≤ x) ∧ Ext w wr) (fun t _ => n - (intOf t).toNat)
  case atStart => exact ⟨[], _, Nat.zero_le _, rfl, rfl, hB0, by simp [Value.ownBlock], hE0⟩
  case round =>
    obtain ⟨xs, v, hxl, hxr, rfl, hB, hown, hEr⟩ := hrel
    have hxr' := Lib.hid hxr
    clear hxr
    by_cases hlt2 : xs.length < n
    · go_wp2
      have hl2 := blk_lt hB.cell
      obtain ⟨a, c, rfl⟩ := own_form hB.row
      have hcell2 : wr.cell? ⟨w.heap.size, 1, none⟩ = some (.slice a xs.length c) := by rw [blk_cell hB.cell]; rfl
      refine Mix.wp_region_mixK [w.heap.size] (.c 0 (.c 1 (.c 2 (.c 3 (.c 4 (.c 5 (.e 6 (.e 7 (.c 8 (.c 9 (.e 10 .done))))))))))) (by kernel_rfl) (by kernel_rfl) (by simpa using hl2) ?_
      have hcx := Mix.Keeps.cell (L := [w.heap.size]) (by simp) hcell2
      repeat (first | (refine Mix.mix_q rfl rfl rfl (fun K hK => ?_); (conv => arg 2; whnf); (first | (go_big_quiet_op; refine hK _ ?_) | (go_simp; refine hK _ ?_)); clear hK K) | (refine Mix.mix_nilK rfl rfl rfl rfl (fun K hK => ?_); (conv => arg 1; whnf); go_simp; refine hK _ ?_; clear hK K))
      (refine Mix.mix_c rfl rfl (fun K hK => ?_); (conv => arg 2; whnf); go_simp; apply Exists.intro; refine ⟨fun _ => ?_, hK _ ?_⟩; exact of_any _ _; clear hK K)
      repeat (first | (refine Mix.mix_q rfl rfl rfl (fun K hK => ?_); (conv => arg 2; whnf); (first | (go_big_quiet_op; refine hK _ ?_) | (go_simp; refine hK _ ?_)); clear hK K) | (refine Mix.mix_nilK rfl rfl rfl rfl (fun K hK => ?_); (conv => arg 1; whnf); go_simp; refine hK _ ?_; clear hK K))
      refine Mix.mix_one rfl rfl (fun w4 hE4 K hK => ?_)
      (conv => arg 2; whnf)
      go_big_op
      have E4 : Ext wr w4 := (Ext.refl _).drew'.trans hE4
      refine hK _ _ (Mix.yes (Mix.Keeps.ext (by simpa using hl2) wr _ (fun _ _ => rfl) (E4.alloc' _))) ?_
      clear hK K
      refine Mix.mix_one rfl rfl (fun w5 hE5 K hK => ?_)
      (conv => arg 2; whnf)
      have E5 : Ext wr w5 := (E4.alloc' _).trans hE5
      have hrow5 := ownsRow_turn (F := []) hB.row (Turn.of_ext E5) (by simp)
      obtain ⟨i1, hi1, hy0, hy1, hy2⟩ := info_parts Try.infoSec
      refine wp_append_at w5 _ _ 73 rfl 0 25 i1 (.agg #[.int .i64 0]) 1 8 Try.underlying73 hi1 hy0 hy1 hy2 rfl (by decide) _ _ _ rfl hrow5 ⟨w4.heap.size, 0, none⟩ 1 1 [.int .i64 0] rfl rfl ?_ ?_ (by unfold maxLen; omega) (by omega) (by omega) ?_
      · exact fun j u hj => hE5.cell (cell_one_new _ _ _ j u hj)
      · simp [Value.oneCell']
      intro v6 w6 hrow6 hg6 hat6
      have hvb : (Value.slice a xs.length c).ownBlock ≠ some w.heap.size := fun e => hB.apart.1 (by simp [e])
      have h6r : w6.heap[w.heap.size]? = wr.heap[w.heap.size]? := (hg6.block _ (Nat.lt_of_lt_of_le hl2 E5.size) (fun e => hvb e.symm)).trans (E5.block _ hl2)
      go_simp
      refine hK _ _ (Mix.yes (fun b hb => by simp only [List.mem_singleton] at hb; subst hb; exact h6r)) ?_
      clear hK K
      repeat (first | (refine Mix.mix_q rfl rfl rfl (fun K hK => ?_); (conv => arg 2; whnf); (first | (go_big_quiet_op; refine hK _ ?_) | (go_simp; refine hK _ ?_)); clear hK K) | (refine Mix.mix_nilK rfl rfl rfl rfl (fun K hK => ?_); (conv => arg 1; whnf); go_simp; refine hK _ ?_; clear hK K))
      refine Mix.mix_last rfl rfl (by kernel_rfl) (fun w7 hE7 K hK => ?_)
      (conv => arg 2; whnf)
      obtain ⟨g, cp, rfl⟩ := ownsRow_form hrow6 (by omega)
      have h7r : w7.heap[w.heap.size]? = some (.cells #[ptr p, .slice a xs.length c] 152 (0, 0)) := hE7.blk (h6r.trans hB.cell)
      have h7c : w7.cell? ⟨w.heap.size, 1, none⟩ = some (.slice a xs.length c) := by rw [blk_cell h7r]; rfl
      have h7f : w7.frozen? ⟨w.heap.size, 1, none⟩ = false := blk_free h7r 1
      go_big_op
      refine hK _ _ (fun w8 hE8 => ?_)
      clear hK K
      (try dsimp only [Exit.then])
      obtain ⟨hB8, hT8, hgv⟩ := bpush_end (x := 0) hB E5 hrow6 hg6 (by
        rcases hat6 with e | e
        · exact .inl e.symm
        · right; simpa [Value.ownBlock] using e) hE7 hE8
      have hge : ∀ y ∈ w.heap.size :: (Value.slice a xs.length c).ownBlock.toList, w.heap.size ≤ y := by
        intro y hy
        rcases List.mem_cons.1 hy with rfl | hy
        · exact Nat.le_refl _
        · exact hown y hy
      have hE8' : Ext w w8 := Below.trans hEr (hT8.below (B := w.heap.size) hge hEr.size)
      have hown8 : ∀ y ∈ (Value.slice (some ⟨g, 0, none⟩) (xs.length + 1) cp).ownBlock.toList, w.heap.size ≤ y := by
        intro y hy
        simp only [Value.ownBlock, Option.toList_some, List.mem_singleton] at hy
        subst hy
        rcases hgv with e | e
        · exact hown y (by simp [e])
        · have := hEr.size; omega
      clear h7r h7c h7f h6r hat6 hg6 hrow6 hrow5 hcell2 hcx E4 hE4 hE5 hE7 hE8 hT8 hge hvb
      go_wp2
      go_roundw
      case rel =>
        refine ⟨xs ++ [0], _, by simp; omega, ?_, by simp, hB8, hown8, hE8'⟩
        have e := hxr'.out
        generalize xs.length = m at *
        subst e
        simp [List.replicate_succ']
      case measure => simp [intOf]; omega
    · have hxn : xs.length = n := by omega
      have hxn' := Lib.hid hxn
      clear hxn
      go_wp2
      go_ret
      refine ⟨v, _, rfl, ?_, Nat.le_refl _, hown, hEr⟩
      rw [← hxn'.out, ← hxr'.out]
      exact hB
end Go.Proofs.Ytoipadeeochbnaa
