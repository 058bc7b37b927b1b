import Derived.Test.YtoipadeeochbnaaTr1
import Derived.Deep.DeepAppendRoom
namespace Go.Proofs.Ytoipadeeochbnaa
open Go.RowKit Mix
set_option linter.unusedVariables false
attribute [local go_sem] Mix.calm Oper.quietUpon
theorem or_low {k n : Int} (hk : 0 ≤ k ∧ k ≤ 3) (h0 : 0 ≤ n) (h1 : n < 268435456) : bits .or .u32 (n * 4) k = n * 4 + k := by
  have e1 : (BitVec.ofInt 32 (n * 4)).toNat = (n * 4).toNat := by
    rw [BitVec.toNat_ofInt]; omega
  have e2 : (BitVec.ofInt 32 k).toNat = k.toNat := by
    rw [BitVec.toNat_ofInt]; omega
  have e3 : (n * 4).toNat ||| k.toNat = (n * 4).toNat + k.toNat := by
    rw [show (n * 4).toNat = n.toNat <<< 2 by rw [Nat.shiftLeft_eq]; omega, Nat.shiftLeft_add_eq_or_of_lt (by omega)]
  show IntKind.u32.wrap ((BitVec.ofInt 32 (n * 4) ||| BitVec.ofInt 32 k).toNat : Int) = _
  rw [BitVec.toNat_or, e1, e2, e3]
  simp [IntKind.wrap, IntKind.bits, IntKind.signed]
  omega
theorem Try.infoU32 : (Try.prog.info? 150).map (fun i => (i.zero, i.size, i.bytes)) = some (some (.int .u32 0), 1, 4) := by kernel_rfl
theorem Try.infoWords : (Try.prog.info? 147).map (fun i => (i.zero, i.size, i.bytes)) = some (some (.slice none 0 0), 1, 24) := by kernel_rfl
/- The words' part: from a world w2 with h : RecAt w2 r (ps ++ [p]) .., to the end. -/
set_option maxHeartbeats 1000000 in
set_option maxRecDepth 100000 in
theorem add_same0 (r g q cp : Nat) (kind n : Int) (hk : 0 ≤ kind ∧ kind ≤ 3) (p0 : List Int) (p : List Int) (hp : p.length + 3 ≤ 64) (qs : List Nat) (w : World)
    (h : RecAt w r ([] ++ [p]) (.slice (some ⟨g, 0, none⟩) (0 + 1) cp) qs) (hq : qs[0]? = some q) (h0 : 0 ≤ n) (h1 : n < 268435456) :
    Calls Try.prog 155 #[.pointer (some ⟨r, 0, none⟩), .int .i64 kind, .int .i64 n] w fun e w' => e = .returned (.tuple #[]) ∧ RecAt w' r ([] ++ [p ++ [n * 4 + kind]]) (.slice (some ⟨g, 0, none⟩) (0 + 1) cp) qs ∧ Turn [g, q] w w' := by
  have hcell : w.cell? ⟨r, 0, none⟩ = some (.slice (some ⟨g, 0, none⟩) (0 + 1) cp) := by rw [blk_cell h.cell]; rfl
  have hcg : w.cell? ⟨g, 0, none⟩ = some (.slice (some ⟨q, 0, none⟩) p.length 64) := by
    have := h.row.cellAt 0 (by simp)
    rw [heads_get (p := p) (q := q) (by simp) hq] at this
    exact this
  have hd : decide ((64 : Int) < (p.length : Int) + 3) = false := by simp; omega
  go_enter Try.func155, Try.ntmps155
  go_wp2
  refine Mix.wp_region_mixX (w.heap.size + 0) (.c 0 (.c 1 (.c 2 (.c 3 (.c 4 (.c 5 (.c 6 (.c 7 (.c 8 (.c 9 (.c 10 (.c 11 (.c 12 (.c 13 (.c 14 (.c 15 (.c 16 (.c 17 (.c 18 (.c 19 (.c 20 (.c 21 .done)))))))))))))))))))))) (by kernel_rfl) (by kernel_rfl) (by first | omega | (simp; done) | (simp; omega)) (fun hap hapf => ?_)
  have hcx : ∀ x, (ap w x).cell? ⟨r, 0, none⟩ = some (.slice (some ⟨g, 0, none⟩) (0 + 1) cp) := fun x => (ap_ext w x).cell hcell
  have hcy : ∀ x, (ap w x).cell? ⟨g, 0, none⟩ = some (.slice (some ⟨q, 0, none⟩) p.length 64) := fun x => (ap_ext w x).cell hcg
  repeat (first | (refine Mix.mix_q rfl rfl rfl (fun K hK => ?_); (conv => arg 2; whnf); (first | (go_big_quiet_op; refine hK _ ?_) | (go_simp; refine hK _ ?_)); clear hK K) | (refine Mix.mix_nilK rfl rfl rfl rfl (fun K hK => ?_); (conv => arg 1; whnf); go_simp; refine hK _ ?_; clear hK K))
  (refine Mix.mix_nil (fun w2 hE2 => ?_); clear hap hapf; dsimp only [Exit.then])
  clear hcx hcy
  replace hE2 := (Ext.refl _).drew'.trans hE2
  go_wp2
  replace h := h.turn (F := []) (Turn.of_ext hE2) (by simp)
  clear hcell hcg hd
  have hl2 : r < w2.heap.size := blk_lt h.cell
  have hgl2 : g < w2.heap.size := (h.row.lt g rfl).2
  have hcell2 : w2.cell? ⟨r, 0, none⟩ = some (.slice (some ⟨g, 0, none⟩) (0 + 1) cp) := by rw [blk_cell h.cell]; rfl
  have hcg2 : w2.cell? ⟨g, 0, none⟩ = some (.slice (some ⟨q, 0, none⟩) p.length 64) := by
    have := h.row.cellAt 0 (by simp)
    rw [heads_get (p := p) (q := q) (by simp) hq] at this
    exact this
  refine Mix.wp_region_mixK [r, g] (.c 0 (.c 1 (.c 2 (.c 3 (.c 4 (.c 5 (.c 6 (.c 7 (.c 8 (.c 9 (.c 10 (.c 11 (.c 12 (.c 13 (.c 14 (.c 15 (.c 16 (.c 17 (.e 18 (.e 19 (.c 20 (.e 21 .done)))))))))))))))))))))) (by kernel_rfl) (by kernel_rfl) (by simp; exact ⟨hl2, hgl2⟩) ?_
  have hcx := Mix.Keeps.cell (L := [r, g]) (by simp) hcell2
  have hcy := Mix.Keeps.cell (L := [r, g]) (by simp) hcg2
  repeat (first | (refine Mix.mix_q rfl rfl rfl (fun K hK => ?_); (conv => arg 2; whnf); (first | (go_big_quiet_op; refine hK _ ?_) | (go_simp; refine hK _ ?_)); clear hK K) | (refine Mix.mix_nilK rfl rfl rfl rfl (fun K hK => ?_); (conv => arg 1; whnf); go_simp; refine hK _ ?_; clear hK K))
  refine Mix.mix_one rfl rfl (fun w4 hE4 K hK => ?_)
  (conv => arg 2; whnf)
  go_big_op
  have hr4 : r < w4.heap.size := Nat.lt_of_lt_of_le hl2 (by have := hE4.size; simpa using this)
  have E4 : Ext w2 w4 := (Ext.refl _).drew'.trans hE4
  have hL2 : ∀ b ∈ [r, g], b < w2.heap.size := by simp; exact ⟨hl2, hgl2⟩
  refine hK _ _ (Mix.yes (Mix.Keeps.ext hL2 w2 _ (fun _ _ => rfl) (E4.alloc' _))) ?_
  clear hK K
  refine Mix.mix_one rfl rfl (fun w5 hE5 K hK => ?_)
  (conv => arg 2; whnf)
  have E5 : Ext w2 w5 := (E4.alloc' _).trans hE5
  have hpart2 := h.part 0 p q (by simp) hq
  have hpart5 := ownsRow_turn (F := []) hpart2 (Turn.of_ext E5) (by simp)
  obtain ⟨i1, hi1, hy0, hy1, hy2⟩ := info_parts Try.infoU32
  refine Go.wp_append_own_spare w5 _ _ 147 rfl 0 150 i1 1 Try.underlying147 hi1 hy1 q p.length 64 _ rfl hpart5 ⟨w4.heap.size, 0, none⟩ 1 1 [.int .u32 (bits .or .u32 (n * 4) kind)] rfl rfl ?_ ?_ (by omega) ?_
  · exact fun j u hj => hE5.cell (cell_one_new _ _ _ j u hj)
  · simp [Value.oneCell']
  intro w6 hrow6 hg6
  obtain ⟨hqg, hqr, hgr⟩ := h.ne (List.mem_of_getElem? hq)
  have hr5 : r < w5.heap.size := Nat.lt_of_lt_of_le hl2 E5.size
  have hg5 : g < w5.heap.size := Nat.lt_of_lt_of_le hgl2 E5.size
  have h6r : w6.heap[r]? = w2.heap[r]? := (hg6.block r hr5 (fun e => hqr (by cases e; rfl))).trans (E5.block r hl2)
  have h6g : w6.heap[g]? = w2.heap[g]? := (hg6.block g hg5 (fun e => hqg (by cases e; rfl))).trans (E5.block g hgl2)
  go_simp
  refine hK _ _ (Mix.yes (fun b hb => by simp only [List.mem_cons, List.not_mem_nil, or_false] at hb; rcases hb with rfl | rfl; exact h6r; exact h6g)) ?_
  clear hK K
  repeat (first | (refine Mix.mix_q rfl rfl rfl (fun K hK => ?_); (conv => arg 2; whnf); (first | (go_big_quiet_op; refine hK _ ?_) | (go_simp; refine hK _ ?_)); clear hK K) | (refine Mix.mix_nilK rfl rfl rfl rfl (fun K hK => ?_); (conv => arg 1; whnf); go_simp; refine hK _ ?_; clear hK K))
  refine Mix.mix_last rfl rfl (by kernel_rfl) (fun w7 hE7 K hK => ?_)
  (conv => arg 2; whnf)
  have T26 : Turn [g, q] w2 w6 := (Turn.of_ext E5).seq (turn_grown hg6 (by simp))
  have hgl6 : g < w6.heap.size := Nat.lt_of_lt_of_le hg5 hg6.size
  have hrow7 := ownsRow_blk h.row ((hE7.block g hgl6).trans h6g)
  have h7c : w7.cell? ⟨g, 0, none⟩ = some (.slice (some ⟨q, 0, none⟩) p.length 64) := by
    have := hrow7.cellAt 0 (by simp)
    rw [heads_get (p := p) (q := q) (by simp) hq] at this
    exact this
  have h7f := hrow7.frozenAt 0
  go_big_op
  refine hK _ _ (fun w8 hE8 => ?_)
  clear hK K
  dsimp only [Exit.then]
  have hfin := grow_end (ps := []) (p := p) (p' := p ++ [n * 4 + kind]) h hq (by rw [or_low hk h0 h1] at hrow6; rw [List.length_append, List.length_singleton, List.map_append]; exact hrow6) T26 h6g hE7 (by rw [List.length_append]; exact hE8)
  clear hrow7 h7c h7f hcx hcy hpart2 hpart5 hrow6 hg6 h6r h6g hcell2 hcg2
  go_wp2
  refine bodyPost_ret (results_none rfl _ _ _) rfl ?_
  exact ⟨rfl, hfin.1, (Turn.of_ext hE2).seq hfin.2⟩
set_option maxHeartbeats 1000000 in
set_option maxRecDepth 100000 in
theorem add_same1 (r g q cp : Nat) (kind n : Int) (hk : 0 ≤ kind ∧ kind ≤ 3) (p0 : List Int) (p : List Int) (hp : p.length + 3 ≤ 256) (qs : List Nat) (w : World)
    (h : RecAt w r ([p0] ++ [p]) (.slice (some ⟨g, 0, none⟩) (1 + 1) cp) qs) (hq : qs[1]? = some q) (h0 : 0 ≤ n) (h1 : n < 268435456) :
    Calls Try.prog 155 #[.pointer (some ⟨r, 0, none⟩), .int .i64 kind, .int .i64 n] w fun e w' => e = .returned (.tuple #[]) ∧ RecAt w' r ([p0] ++ [p ++ [n * 4 + kind]]) (.slice (some ⟨g, 0, none⟩) (1 + 1) cp) qs ∧ Turn [g, q] w w' := by
  have hcell : w.cell? ⟨r, 0, none⟩ = some (.slice (some ⟨g, 0, none⟩) (1 + 1) cp) := by rw [blk_cell h.cell]; rfl
  have hcg : w.cell? ⟨g, 1, none⟩ = some (.slice (some ⟨q, 0, none⟩) p.length 256) := by
    have := h.row.cellAt 1 (by simp)
    rw [heads_get (p := p) (q := q) (by simp) hq] at this
    exact this
  have hd : decide ((256 : Int) < (p.length : Int) + 3) = false := by simp; omega
  go_enter Try.func155, Try.ntmps155
  go_wp2
  refine Mix.wp_region_mixX (w.heap.size + 0) (.c 0 (.c 1 (.c 2 (.c 3 (.c 4 (.c 5 (.c 6 (.c 7 (.c 8 (.c 9 (.c 10 (.c 11 (.c 12 (.c 13 (.c 14 (.c 15 (.c 16 (.c 17 (.c 18 (.c 19 (.c 20 (.c 21 .done)))))))))))))))))))))) (by kernel_rfl) (by kernel_rfl) (by first | omega | (simp; done) | (simp; omega)) (fun hap hapf => ?_)
  have hcx : ∀ x, (ap w x).cell? ⟨r, 0, none⟩ = some (.slice (some ⟨g, 0, none⟩) (1 + 1) cp) := fun x => (ap_ext w x).cell hcell
  have hcy : ∀ x, (ap w x).cell? ⟨g, 1, none⟩ = some (.slice (some ⟨q, 0, none⟩) p.length 256) := fun x => (ap_ext w x).cell hcg
  repeat (first | (refine Mix.mix_q rfl rfl rfl (fun K hK => ?_); (conv => arg 2; whnf); (first | (go_big_quiet_op; refine hK _ ?_) | (go_simp; refine hK _ ?_)); clear hK K) | (refine Mix.mix_nilK rfl rfl rfl rfl (fun K hK => ?_); (conv => arg 1; whnf); go_simp; refine hK _ ?_; clear hK K))
  (refine Mix.mix_nil (fun w2 hE2 => ?_); clear hap hapf; dsimp only [Exit.then])
  clear hcx hcy
  replace hE2 := (Ext.refl _).drew'.trans hE2
  go_wp2
  replace h := h.turn (F := []) (Turn.of_ext hE2) (by simp)
  clear hcell hcg hd
  have hl2 : r < w2.heap.size := blk_lt h.cell
  have hgl2 : g < w2.heap.size := (h.row.lt g rfl).2
  have hcell2 : w2.cell? ⟨r, 0, none⟩ = some (.slice (some ⟨g, 0, none⟩) (1 + 1) cp) := by rw [blk_cell h.cell]; rfl
  have hcg2 : w2.cell? ⟨g, 1, none⟩ = some (.slice (some ⟨q, 0, none⟩) p.length 256) := by
    have := h.row.cellAt 1 (by simp)
    rw [heads_get (p := p) (q := q) (by simp) hq] at this
    exact this
  refine Mix.wp_region_mixK [r, g] (.c 0 (.c 1 (.c 2 (.c 3 (.c 4 (.c 5 (.c 6 (.c 7 (.c 8 (.c 9 (.c 10 (.c 11 (.c 12 (.c 13 (.c 14 (.c 15 (.c 16 (.c 17 (.e 18 (.e 19 (.c 20 (.e 21 .done)))))))))))))))))))))) (by kernel_rfl) (by kernel_rfl) (by simp; exact ⟨hl2, hgl2⟩) ?_
  have hcx := Mix.Keeps.cell (L := [r, g]) (by simp) hcell2
  have hcy := Mix.Keeps.cell (L := [r, g]) (by simp) hcg2
  repeat (first | (refine Mix.mix_q rfl rfl rfl (fun K hK => ?_); (conv => arg 2; whnf); (first | (go_big_quiet_op; refine hK _ ?_) | (go_simp; refine hK _ ?_)); clear hK K) | (refine Mix.mix_nilK rfl rfl rfl rfl (fun K hK => ?_); (conv => arg 1; whnf); go_simp; refine hK _ ?_; clear hK K))
  refine Mix.mix_one rfl rfl (fun w4 hE4 K hK => ?_)
  (conv => arg 2; whnf)
  go_big_op
  have hr4 : r < w4.heap.size := Nat.lt_of_lt_of_le hl2 (by have := hE4.size; simpa using this)
  have E4 : Ext w2 w4 := (Ext.refl _).drew'.trans hE4
  have hL2 : ∀ b ∈ [r, g], b < w2.heap.size := by simp; exact ⟨hl2, hgl2⟩
  refine hK _ _ (Mix.yes (Mix.Keeps.ext hL2 w2 _ (fun _ _ => rfl) (E4.alloc' _))) ?_
  clear hK K
  refine Mix.mix_one rfl rfl (fun w5 hE5 K hK => ?_)
  (conv => arg 2; whnf)
  have E5 : Ext w2 w5 := (E4.alloc' _).trans hE5
  have hpart2 := h.part 1 p q (by simp) hq
  have hpart5 := ownsRow_turn (F := []) hpart2 (Turn.of_ext E5) (by simp)
  obtain ⟨i1, hi1, hy0, hy1, hy2⟩ := info_parts Try.infoU32
  refine Go.wp_append_own_spare w5 _ _ 147 rfl 0 150 i1 1 Try.underlying147 hi1 hy1 q p.length 256 _ rfl hpart5 ⟨w4.heap.size, 0, none⟩ 1 1 [.int .u32 (bits .or .u32 (n * 4) kind)] rfl rfl ?_ ?_ (by omega) ?_
  · exact fun j u hj => hE5.cell (cell_one_new _ _ _ j u hj)
  · simp [Value.oneCell']
  intro w6 hrow6 hg6
  obtain ⟨hqg, hqr, hgr⟩ := h.ne (List.mem_of_getElem? hq)
  have hr5 : r < w5.heap.size := Nat.lt_of_lt_of_le hl2 E5.size
  have hg5 : g < w5.heap.size := Nat.lt_of_lt_of_le hgl2 E5.size
  have h6r : w6.heap[r]? = w2.heap[r]? := (hg6.block r hr5 (fun e => hqr (by cases e; rfl))).trans (E5.block r hl2)
  have h6g : w6.heap[g]? = w2.heap[g]? := (hg6.block g hg5 (fun e => hqg (by cases e; rfl))).trans (E5.block g hgl2)
  go_simp
  refine hK _ _ (Mix.yes (fun b hb => by simp only [List.mem_cons, List.not_mem_nil, or_false] at hb; rcases hb with rfl | rfl; exact h6r; exact h6g)) ?_
  clear hK K
  repeat (first | (refine Mix.mix_q rfl rfl rfl (fun K hK => ?_); (conv => arg 2; whnf); (first | (go_big_quiet_op; refine hK _ ?_) | (go_simp; refine hK _ ?_)); clear hK K) | (refine Mix.mix_nilK rfl rfl rfl rfl (fun K hK => ?_); (conv => arg 1; whnf); go_simp; refine hK _ ?_; clear hK K))
  refine Mix.mix_last rfl rfl (by kernel_rfl) (fun w7 hE7 K hK => ?_)
  (conv => arg 2; whnf)
  have T26 : Turn [g, q] w2 w6 := (Turn.of_ext E5).seq (turn_grown hg6 (by simp))
  have hgl6 : g < w6.heap.size := Nat.lt_of_lt_of_le hg5 hg6.size
  have hrow7 := ownsRow_blk h.row ((hE7.block g hgl6).trans h6g)
  have h7c : w7.cell? ⟨g, 1, none⟩ = some (.slice (some ⟨q, 0, none⟩) p.length 256) := by
    have := hrow7.cellAt 1 (by simp)
    rw [heads_get (p := p) (q := q) (by simp) hq] at this
    exact this
  have h7f := hrow7.frozenAt 1
  go_big_op
  refine hK _ _ (fun w8 hE8 => ?_)
  clear hK K
  dsimp only [Exit.then]
  have hfin := grow_end (ps := [p0]) (p := p) (p' := p ++ [n * 4 + kind]) h hq (by rw [or_low hk h0 h1] at hrow6; rw [List.length_append, List.length_singleton, List.map_append]; exact hrow6) T26 h6g hE7 (by rw [List.length_append]; exact hE8)
  clear hrow7 h7c h7f hcx hcy hpart2 hpart5 hrow6 hg6 h6r h6g hcell2 hcg2
  go_wp2
  refine bodyPost_ret (results_none rfl _ _ _) rfl ?_
  exact ⟨rfl, hfin.1, (Turn.of_ext hE2).seq hfin.2⟩
end Go.Proofs.Ytoipadeeochbnaa
