import Derived.Test.YtoipadeeochbnaaAdd1
import Derived.Lib.Hide
namespace Go.Proofs.Ytoipadeeochbnaa
open Go.RowKit Mix
set_option linter.unusedVariables false
attribute [local go_sem] Mix.calm Oper.quietUpon
theorem make_words (c : Nat) (hc : c ≤ 65536) (w : World) : (Instr.makeSlice 147 (.int .i64 0) (.int .i64 (c : Int))).run Try.prog w = .ok (.slice (some ⟨w.heap.size, 0, none⟩) 0 c) (w.alloc (.cells (madeCells (Value.int .u32 0).cells (c * 1)) 150)) := by
  obtain ⟨i0, hi, hz0, hz1, hz2⟩ := info_parts Try.infoU32
  have h := run_makeSlice (P := Try.prog) w 147 150 i0 (.int .u32 0) Try.underlying147 hi hz0 .i64 .i64 0 c (by omega) (by omega) (by rw [hz1]; simp; omega) (by rw [hz2]; omega) (by omega)
  rw [hz1] at h
  simpa using h
theorem wp_append_at {P : Program} (w : World) {o : Oper} {a : Act} {K : Act → World → Prop} {Q : Exit → Act → World → Prop} (s x : Operand) (t : TypeId)
    (ho : o.op = .call { callee := .builtin .append, args := #[s, x], argTypes := #[t, t] })
    (base : Nat) (e : TypeId) (i : TypeInfo) (z : Value) (size bytes : Nat) (ht : P.underlying t = some (.slice e)) (hi : P.info? e = some i) (hz : i.zero = some z)
    (hsize : i.size = size) (hby : i.bytes = bytes) (hzs : z.cells.size = size) (hsz : 0 < size)
    (v : Value) (n : Nat) (xs : List Value) (hs : a.eval s = v) (hown : w.ownsRow base e size v n xs)
    (ad : Addr) (m c : Nat) (news : List Value) (hx : a.eval x = .slice (some ad) m c) (hl : news.length = m * size) (hnews : ∀ j u, news[j]? = some u → w.cell? (ad.add j) = some u) (h1 : ∀ u ∈ news, u.oneCell' = true)
    (h63 : n + m ≤ maxLen) (hbytes : (n + m) * bytes ≤ 140737488355328) (hbase : base ≤ w.heap.size)
    (h : ∀ v' w', w'.ownsRow base e size v' (n + m) (xs ++ news) → w.grownBy w' v.ownBlock → (v'.ownBlock = v.ownBlock ∨ v'.ownBlock = some w.heap.size) → K (a.put o.dst v') w') : o.wp P a w K Q := by
  obtain ⟨v', w', hr, h2, h3, h4, h5⟩ := run_append_own_at (P := P) w base t o.type e i z size bytes ht hi hz hsize hby hzs hsz v n xs hown ad m c news hl hnews h1 h63 hbytes hbase
  unfold Oper.wp execOp
  simp only [ho, resolve, invoke, builtin, Sem.run_bind, Sem.run_pure, Result.andThen_ok, List.map_toArray, List.map_cons, List.map_nil, hs, hx, hr]
  exact h v' w' h2 h3 h5
theorem blk_set {w : World} {b o : Nat} {C : Array Value} {T : TypeId} {v : Value} (h : w.heap[b]? = some (.cells C T (0, 0))) : (w.setCell ⟨b, o, none⟩ v).heap[b]? = some (.cells (C.setIfInBounds o v) T (0, 0)) := by
  obtain ⟨hlt, hk⟩ := Array.getElem?_eq_some_iff.1 h
  show (w.heap.modify b _)[b]? = _
  rw [Array.getElem?_eq_getElem (by rw [Array.size_modify]; exact hlt), Array.getElem_modify_self, hk]
  rfl
theorem row_ne_own {r : Nat} {v : Value} {qs : List Nat} (h : (r :: (v.ownBlock.toList ++ qs)).Nodup) : v.ownBlock ≠ some r := fun e => by
  simp [e] at h
theorem turn_grownO {F : List Nat} {o : Option Nat} {w w' : World} (h : w.grownBy w' o) (hg : ∀ g, o = some g → g ∈ F) : Turn F w w' :=
  ⟨h.os, h.tape, h.output, h.size, fun k hk hkF => h.block k hk (fun e => hkF (hg k e.symm))⟩
/-- Behind the store of the parts' list with one part more. -/
theorem push_end {w2 w3 w4 w5 w6 w7 w8 : World} {r : Nat} {ps : List (List Int)} {v : Value} {qs : List Nat} {g cp C : Nat} (h : RecAt w2 r ps v qs) (hC : C = capN ps.length) (hCm : C ≤ maxLen)
    (E3 : Ext w2 w3) (hE4 : Ext (w3.alloc (.cells (madeCells (Value.int .u32 0).cells (C * 1)) 150)) w4) (hE5 : Ext w4 w5) (hlt : w4.heap.size < w5.heap.size)
    (hrow6 : w6.ownsRow 0 147 1 (.slice (some ⟨g, 0, none⟩) (ps.length + 1) cp) (ps.length + 1) (heads qs ps ++ [.slice (some ⟨w3.heap.size, 0, none⟩) 0 C]))
    (hg6 : w5.grownBy w6 v.ownBlock) (hat6 : v.ownBlock = some g ∨ g = w5.heap.size) (hE7 : Ext w6 w7)
    (hE8 : Ext (w7.setCell ⟨r, 0, none⟩ (.slice (some ⟨g, 0, none⟩) (ps.length + 1) cp)) w8) :
    RecAt w8 r (ps ++ [[]]) (.slice (some ⟨g, 0, none⟩) (ps.length + 1) cp) (qs ++ [w3.heap.size]) ∧ Turn (r :: v.ownBlock.toList) w2 w8 ∧ (v.ownBlock = some g ∨ w2.heap.size ≤ g) ∧ w2.heap.size ≤ w3.heap.size := by
  subst hC
  have hz3 : w2.heap.size ≤ w3.heap.size := E3.size
  have hz4 : w3.heap.size < w4.heap.size := by have := hE4.size; simp at this; omega
  have E5 : Ext w2 w5 := E3.trans (((Ext.refl _).alloc' _).trans (hE4.trans hE5))
  have hl2 := blk_lt h.cell
  have hap := h.apart
  have hFlt : ∀ x ∈ r :: v.ownBlock.toList, x < w2.heap.size := fun x hx => h.lt x (by
    simp only [List.mem_cons] at hx
    simp only [foot, List.mem_cons, List.mem_append]
    rcases hx with hx | hx
    · exact .inl hx
    · exact .inr (.inl hx))
  have hgv : v.ownBlock = some g ∨ w2.heap.size ≤ g := by
    rcases hat6 with e | e
    · exact .inl e
    · have := E5.size; exact .inr (by omega)
  have hgr : g ≠ r := by
    rcases hgv with e | e
    · intro e'
      simp only [e, Option.toList_some, List.nodup_cons, List.mem_append, List.mem_singleton] at hap
      exact hap.1 (.inl e'.symm)
    · omega
  have hg0 : g < w6.heap.size := (hrow6.lt g rfl).2
  have h6r : w6.heap[r]? = w2.heap[r]? := (hg6.block r (Nat.lt_of_lt_of_le hl2 E5.size) (fun e => row_ne_own hap e.symm)).trans (E5.block r hl2)
  have h7r : w7.heap[r]? = some (.cells #[v] 140 (0, 0)) := hE7.blk (h6r.trans h.cell)
  have T56 : Turn (r :: v.ownBlock.toList) w5 w6 := turn_grownO hg6 (fun k e => by simp [e])
  have T78 : Turn (r :: v.ownBlock.toList) w7 w8 := (turn_set (by simp)).seq (Turn.of_ext hE8)
  have T58 : Turn (r :: v.ownBlock.toList) w5 w8 := (T56.seq (Turn.of_ext hE7)).seq T78
  have T8 : Turn (r :: v.ownBlock.toList) w2 w8 := (Turn.of_ext E5).seq T58
  have hq8 : w8.ownsRow 0 150 1 (.slice (some ⟨w3.heap.size, 0, none⟩) 0 (capN ps.length)) 0 [] := by
    have q3 := World.ownsRow_made (base := 0) (e := 150) (size := 1) w3 (madeCells (Value.int .u32 0).cells (capN ps.length * 1)) (capN ps.length) (Nat.zero_le _) hCm (size_madeCells _ _)
    exact ownsRow_turn q3 ((Turn.of_ext (hE4.trans hE5)).seq T58) (fun b e hb => by
      simp only [Value.ownBlock, Option.some.injEq] at e
      subst e
      have := hFlt _ hb
      omega)
  have h8r : w8.heap[r]? = some (.cells #[.slice (some ⟨g, 0, none⟩) (ps.length + 1) cp] 140 (0, 0)) := by
    exact hE8.blk (by rw [blk_set h7r]; rfl)
  have h8g : w8.heap[g]? = w6.heap[g]? := by
    have g7 := Nat.lt_of_lt_of_le hg0 hE7.size
    rw [hE8.block g (by simpa using g7), Below.heap_setCell _ _ _ _ hgr, hE7.block g hg0]
  refine ⟨h.push (F := r :: v.ownBlock.toList) h8r (ownsRow_blk hrow6 h8g) hq8 T8 ?_ hgv hz3 ?_, T8, hgv, hz3⟩
  · intro x hx hm
    simp only [List.mem_cons, Option.mem_toList] at hm
    simp only [List.nodup_cons, List.nodup_append, List.mem_append, not_or] at hap
    rcases hm with e | e
    · exact hap.1.2 (e ▸ hx)
    · exact hap.2.2.2 x (by simp [e]) x hx rfl
  · rcases hgv with e | e
    · have := hFlt g (by simp [e]); omega
    · rcases hat6 with e' | e'
      · have := hFlt g (by simp [e']); omega
      · omega

set_option maxHeartbeats 1000000 in
set_option maxRecDepth 100000 in
theorem add_push0 (r : Nat) (kind n : Int) (hk : 0 ≤ kind ∧ kind ≤ 3) (w : World) (h : RecAt w r [] (.slice none 0 0) []) (h0 : 0 ≤ n) (h1 : n < 268435456) :
    Calls Try.prog 155 #[.pointer (some ⟨r, 0, none⟩), .int .i64 kind, .int .i64 n] w fun e w' => e = .returned (.tuple #[]) ∧ ∃ g cp q, RecAt w' r [[n * 4 + kind]] (.slice (some ⟨g, 0, none⟩) 1 cp) [q] ∧ Turn [r] w w' ∧ w.heap.size ≤ g ∧ w.heap.size ≤ q := by
  have hcell : w.cell? ⟨r, 0, none⟩ = some (.slice none 0 0) := by rw [blk_cell h.cell]; rfl
  go_enter Try.func155, Try.ntmps155
  go_wp2
  refine Mix.wp_region_mixX (w.heap.size + 0) (.c 0 (.c 1 (.c 2 (.c 3 (.c 4 (.c 5 (.c 6 (.c 7 (.c 8 (.c 9 (.c 10 (.c 11 (.c 12 (.c 13 (.c 14 (.c 15 (.c 16 (.c 17 (.c 18 (.c 19 (.c 20 (.c 21 .done)))))))))))))))))))))) (by kernel_rfl) (by kernel_rfl) (by first | omega | (simp; done) | (simp; omega)) (fun hap hapf => ?_)
  have hcx : ∀ x, (ap w x).cell? ⟨r, 0, none⟩ = some (.slice none 0 0) := fun x => (ap_ext w x).cell hcell
  iterate 3 (refine Mix.mix_q rfl rfl rfl (fun K hK => ?_); (conv => arg 2; whnf); (first | (go_big_quiet_op; refine hK _ ?_) | (go_simp; refine hK _ ?_)); clear hK K)
  iterate 18 (refine Mix.mix_passK rfl rfl (fun K hK => ?_); (conv => arg 1; whnf); go_simp; refine hK _ ?_; clear hK K)
  repeat (refine Mix.mix_q rfl rfl rfl (fun K hK => ?_); (conv => arg 2; whnf); (first | (go_big_quiet_op; refine hK _ ?_) | (go_simp; refine hK _ ?_)); clear hK K)
  (refine Mix.mix_nil (fun w2 hE2 => ?_); clear hap hapf; dsimp only [Exit.then])
  clear hcx
  replace hE2 := (Ext.refl _).drew'.trans hE2
  have hw2 := hE2.size
  go_wp2
  replace h := h.turn (F := []) (Turn.of_ext hE2) (by simp)
  clear hcell
  have hl2 := blk_lt h.cell
  have hcell2 : w2.cell? ⟨r, 0, none⟩ = some (.slice none 0 0) := by rw [blk_cell h.cell]; rfl
  have hrow2 := h.row
  refine Mix.wp_region_mixK [r] (.c 0 (.c 1 (.c 2 (.c 3 (.c 4 (.c 5 (.c 6 (.c 7 (.c 8 (.c 9 (.c 10 (.c 11 (.c 12 (.c 13 (.e 14 (.e 15 (.e 16 (.c 17 (.c 18 (.e 19 .done)))))))))))))))))))) (by kernel_rfl) (by kernel_rfl) (by simpa using hl2) ?_
  have hcx := Mix.Keeps.cell (L := [r]) (by simp) hcell2
  repeat (first | (refine Mix.mix_q rfl rfl rfl (fun K hK => ?_); (conv => arg 2; whnf); (first | (go_big_quiet_op; refine hK _ ?_) | (go_simp; refine hK _ ?_)); clear hK K) | (refine Mix.mix_nilK rfl rfl rfl rfl (fun K hK => ?_); (conv => arg 1; whnf); go_simp; refine hK _ ?_; clear hK K))
  refine Mix.mix_one rfl rfl (fun w3 hE3 K hK => ?_)
  (conv => arg 2; whnf)
  go_big_op
  rw [show (Instr.makeSlice 147 (.int .i64 0) (.int .i64 64)).run Try.prog w3 = _ from make_words 64 (by omega) w3]
  go_simp
  refine hK _ _ (Mix.yes (Mix.Keeps.ext (by simpa using hl2) w2.drew _ (fun _ _ => rfl) (hE3.alloc' _))) ?_
  clear hK K
  refine Mix.mix_one rfl rfl (fun w4 hE4 K hK => ?_)
  (conv => arg 2; whnf)
  go_big_op
  have E3 : Ext w2 w3 := (Ext.refl _).drew'.trans hE3
  have E4 : Ext w2 w4 := E3.trans (((Ext.refl _).alloc' _).trans hE4)
  refine hK _ _ (Mix.yes (Mix.Keeps.ext (by simpa using hl2) w2 _ (fun _ _ => rfl) (E4.alloc' _))) ?_
  clear hK K
  refine Mix.mix_one rfl rfl (fun w5 hE5 K hK => ?_)
  (conv => arg 2; whnf)
  have E5 : Ext w2 w5 := (E4.alloc' _).trans hE5
  have hrow5 := ownsRow_turn (F := []) hrow2 (Turn.of_ext E5) (by simp)
  obtain ⟨i1, hi1, hy0, hy1, hy2⟩ := info_parts Try.infoWords
  refine wp_append_at w5 _ _ 138 rfl 0 147 i1 (.slice none 0 0) 1 24 Try.underlying138 hi1 hy0 hy1 hy2 rfl (by decide) _ _ _ rfl hrow5 ⟨w4.heap.size, 0, none⟩ 1 1 [.slice (some ⟨w3.heap.size, 0, none⟩) 0 64] rfl rfl ?_ ?_ (by simp [maxLen]) (by simp) (by omega) ?_
  · exact fun j u hj => hE5.cell (cell_one_new _ _ _ j u hj)
  · simp [Value.oneCell']
  intro v6 w6 hrow6 hg6 hat6
  have hap := h.apart
  have hr5 : r < w5.heap.size := Nat.lt_of_lt_of_le hl2 E5.size
  have h6r : w6.heap[r]? = w2.heap[r]? := (hg6.block r hr5 (fun e => row_ne_own hap e.symm)).trans (E5.block r hl2)
  go_simp
  refine hK _ _ (Mix.yes (fun b hb => by simp only [List.mem_singleton] at hb; subst hb; exact h6r)) ?_
  clear hK K
  repeat (first | (refine Mix.mix_q rfl rfl rfl (fun K hK => ?_); (conv => arg 2; whnf); (first | (go_big_quiet_op; refine hK _ ?_) | (go_simp; refine hK _ ?_)); clear hK K) | (refine Mix.mix_nilK rfl rfl rfl rfl (fun K hK => ?_); (conv => arg 1; whnf); go_simp; refine hK _ ?_; clear hK K))
  refine Mix.mix_last rfl rfl (by kernel_rfl) (fun w7 hE7 K hK => ?_)
  (conv => arg 2; whnf)
  obtain ⟨g, cp, rfl⟩ : ∃ g cp, v6 = .slice (some ⟨g, 0, none⟩) (0 + 1) cp := by
    rcases hrow6.2 with ⟨_, h0⟩ | ⟨g, cp, cur, rfl, _⟩
    · exact absurd h0 (by simp)
    · exact ⟨g, cp, rfl⟩
  have h7r : w7.heap[r]? = some (.cells #[.slice none 0 0] 140 (0, 0)) := (hE7.blk (h6r.trans h.cell))
  have h7c : w7.cell? ⟨r, 0, none⟩ = some (.slice none 0 0) := by rw [blk_cell h7r]; rfl
  have h7f : w7.frozen? ⟨r, 0, none⟩ = false := blk_free h7r 0
  go_big_op
  refine hK _ _ (fun w8 hE8 => ?_)
  clear hK K
  dsimp only [Exit.then]
  have hpush := push_end (ps := []) (C := 64) h rfl (by decide) E3 hE4 (((Ext.refl _).alloc' _).trans hE5) (by have := hE5.size; simp at this; omega) hrow6 hg6 (by
    rcases hat6 with e | e
    · exact .inl e.symm
    · right; simpa [Value.ownBlock] using e) hE7 hE8
  clear h7r h7c h7f h6r hat6 hg6 hrow6 hrow5 hrow2 hcell2 hcx E4 hE4 hE5 hE7 hE8 hap
  go_wp2
  obtain ⟨h8, T28, hgv, hz3⟩ := hpush
  clear h
  obtain ⟨q, hqe⟩ : ∃ q, q = w3.heap.size := ⟨_, rfl⟩
  obtain ⟨p, hp0, hp⟩ : ∃ p : List Int, p = [] ∧ p.length + 3 ≤ 64 := ⟨[], rfl, by simp⟩
  rw [← hqe, ← hp0] at h8
  have hq : ([] ++ [q])[0]? = some q := rfl
  have h := h8
  clear h8
  rw [← hqe] at hz3
  have hp0' := Lib.hid hp0
  clear hp0 hqe
  have hl2 : r < w8.heap.size := blk_lt h.cell
  have hgl2 : g < w8.heap.size := (h.row.lt g rfl).2
  have hcell2 : w8.cell? ⟨r, 0, none⟩ = some (.slice (some ⟨g, 0, none⟩) (0 + 1) cp) := by rw [blk_cell h.cell]; rfl
  have hcg2 : w8.cell? ⟨g, 0, none⟩ = some (.slice (some ⟨q, 0, none⟩) p.length 64) := by
    have := h.row.cellAt 0 (by simp)
    rw [heads_get (p := p) (q := q) (by simp) hq] at this
    exact this
  refine Mix.wp_region_mixK [r, g] (.c 0 (.c 1 (.c 2 (.c 3 (.c 4 (.c 5 (.c 6 (.c 7 (.c 8 (.c 9 (.c 10 (.c 11 (.c 12 (.c 13 (.c 14 (.c 15 (.c 16 (.c 17 (.e 18 (.e 19 (.c 20 (.e 21 .done)))))))))))))))))))))) (by kernel_rfl) (by kernel_rfl) (by simp; exact ⟨hl2, hgl2⟩) ?_
  have hcx := Mix.Keeps.cell (L := [r, g]) (by simp) hcell2
  have hcy := Mix.Keeps.cell (L := [r, g]) (by simp) hcg2
  repeat (first | (refine Mix.mix_q rfl rfl rfl (fun K hK => ?_); (conv => arg 2; whnf); (first | (go_big_quiet_op; refine hK _ ?_) | (go_simp; refine hK _ ?_)); clear hK K) | (refine Mix.mix_nilK rfl rfl rfl rfl (fun K hK => ?_); (conv => arg 1; whnf); go_simp; refine hK _ ?_; clear hK K))
  refine Mix.mix_one rfl rfl (fun w4 hE4 K hK => ?_)
  (conv => arg 2; whnf)
  go_big_op
  have hr4 : r < w4.heap.size := Nat.lt_of_lt_of_le hl2 (by have := hE4.size; simpa using this)
  have E4 : Ext w8 w4 := (Ext.refl _).drew'.trans hE4
  have hL2 : ∀ b ∈ [r, g], b < w8.heap.size := by simp; exact ⟨hl2, hgl2⟩
  refine hK _ _ (Mix.yes (Mix.Keeps.ext hL2 w8 _ (fun _ _ => rfl) (E4.alloc' _))) ?_
  clear hK K
  refine Mix.mix_one rfl rfl (fun w5 hE5 K hK => ?_)
  (conv => arg 2; whnf)
  have E5 : Ext w8 w5 := (E4.alloc' _).trans hE5
  have hpart2 := h.part 0 p q (by simp) hq
  have hpart5 := ownsRow_turn (F := []) hpart2 (Turn.of_ext E5) (by simp)
  obtain ⟨i1, hi1, hy0, hy1, hy2⟩ := info_parts Try.infoU32
  refine Go.wp_append_own_spare w5 _ _ 147 rfl 0 150 i1 1 Try.underlying147 hi1 hy1 q p.length 64 _ rfl hpart5 ⟨w4.heap.size, 0, none⟩ 1 1 [.int .u32 (bits .or .u32 (n * 4) kind)] rfl rfl ?_ ?_ (by omega) ?_
  · exact fun j u hj => hE5.cell (cell_one_new _ _ _ j u hj)
  · simp [Value.oneCell']
  intro w6 hrow6 hg6
  obtain ⟨hqg, hqr, hgr⟩ := h.ne (List.mem_of_getElem? hq)
  have hr5 : r < w5.heap.size := Nat.lt_of_lt_of_le hl2 E5.size
  have hg5 : g < w5.heap.size := Nat.lt_of_lt_of_le hgl2 E5.size
  have h6r : w6.heap[r]? = w8.heap[r]? := (hg6.block r hr5 (fun e => hqr (by cases e; rfl))).trans (E5.block r hl2)
  have h6g : w6.heap[g]? = w8.heap[g]? := (hg6.block g hg5 (fun e => hqg (by cases e; rfl))).trans (E5.block g hgl2)
  go_simp
  refine hK _ _ (Mix.yes (fun b hb => by simp only [List.mem_cons, List.not_mem_nil, or_false] at hb; rcases hb with rfl | rfl; exact h6r; exact h6g)) ?_
  clear hK K
  repeat (first | (refine Mix.mix_q rfl rfl rfl (fun K hK => ?_); (conv => arg 2; whnf); (first | (go_big_quiet_op; refine hK _ ?_) | (go_simp; refine hK _ ?_)); clear hK K) | (refine Mix.mix_nilK rfl rfl rfl rfl (fun K hK => ?_); (conv => arg 1; whnf); go_simp; refine hK _ ?_; clear hK K))
  refine Mix.mix_last rfl rfl (by kernel_rfl) (fun w7 hE7 K hK => ?_)
  (conv => arg 2; whnf)
  have T26 : Turn [g, q] w8 w6 := (Turn.of_ext E5).seq (turn_grown hg6 (by simp))
  have hgl6 : g < w6.heap.size := Nat.lt_of_lt_of_le hg5 hg6.size
  have hrow7 := ownsRow_blk h.row ((hE7.block g hgl6).trans h6g)
  have h7c : w7.cell? ⟨g, 0, none⟩ = some (.slice (some ⟨q, 0, none⟩) p.length 64) := by
    have := hrow7.cellAt 0 (by simp)
    rw [heads_get (p := p) (q := q) (by simp) hq] at this
    exact this
  have h7f := hrow7.frozenAt 0
  go_big_op
  refine hK _ _ (fun w8 hE8 => ?_)
  clear hK K
  dsimp only [Exit.then]
  have hfin := grow_end (ps := []) (p := p) (p' := p ++ [n * 4 + kind]) h hq (by rw [or_low hk h0 h1] at hrow6; rw [List.length_append, List.length_singleton, List.map_append]; exact hrow6) T26 h6g hE7 (by rw [List.length_append]; exact hE8)
  clear hrow7 h7c h7f hcx hcy hpart2 hpart5 hrow6 hg6 h6r h6g hcell2 hcg2
  go_wp2
  refine bodyPost_ret (results_none rfl _ _ _) rfl ?_
  have hp0 := hp0'.out
  subst hp0
  have hgw : w.heap.size ≤ g := by
    rcases hgv with e | e
    · simp [Value.ownBlock] at e
    · omega
  have hqw : w.heap.size ≤ q := by omega
  exact ⟨rfl, g, cp, q, hfin.1, ((Turn.of_ext hE2).seq T28).trans hfin.2 (fun x hx => .inr (by simp only [List.mem_cons, List.not_mem_nil, or_false] at hx; rcases hx with rfl | rfl <;> assumption)), hgw, hqw⟩
set_option maxHeartbeats 1000000 in
set_option maxRecDepth 100000 in
theorem add_push1 (r g0 c0 q0 : Nat) (p0 : List Int) (hp0 : p0.length = 62) (kind n : Int) (hk : 0 ≤ kind ∧ kind ≤ 3) (w : World) (h : RecAt w r [p0] (.slice (some ⟨g0, 0, none⟩) 1 c0) [q0]) (h0 : 0 ≤ n) (h1 : n < 268435456) :
    Calls Try.prog 155 #[.pointer (some ⟨r, 0, none⟩), .int .i64 kind, .int .i64 n] w fun e w' => e = .returned (.tuple #[]) ∧ ∃ g cp q, RecAt w' r [p0, [n * 4 + kind]] (.slice (some ⟨g, 0, none⟩) 2 cp) [q0, q] ∧ Turn [r, g0] w w' ∧ (g = g0 ∨ w.heap.size ≤ g) ∧ w.heap.size ≤ q := by
  have hcell : w.cell? ⟨r, 0, none⟩ = some (.slice (some ⟨g0, 0, none⟩) 1 c0) := by rw [blk_cell h.cell]; rfl
  have hcg : w.cell? ⟨g0, 0, none⟩ = some (.slice (some ⟨q0, 0, none⟩) p0.length 64) := by
    have := h.row.cellAt 0 (by simp)
    rw [heads_get (p := p0) (q := q0) (by simp) rfl] at this
    exact this
  have hd : decide ((64 : Int) < (p0.length : Int) + 3) = true := by simp; omega
  have hb0 : p0.length ≤ 62 := by omega
  have hp0' := Lib.hid hp0
  clear hp0
  go_enter Try.func155, Try.ntmps155
  go_wp2
  refine Mix.wp_region_mixX (w.heap.size + 0) (.c 0 (.c 1 (.c 2 (.c 3 (.c 4 (.c 5 (.c 6 (.c 7 (.c 8 (.c 9 (.c 10 (.c 11 (.c 12 (.c 13 (.c 14 (.c 15 (.c 16 (.c 17 (.c 18 (.c 19 (.c 20 (.c 21 .done)))))))))))))))))))))) (by kernel_rfl) (by kernel_rfl) (by first | omega | (simp; done) | (simp; omega)) (fun hap hapf => ?_)
  have hcx : ∀ x, (ap w x).cell? ⟨r, 0, none⟩ = some (.slice (some ⟨g0, 0, none⟩) 1 c0) := fun x => (ap_ext w x).cell hcell
  have hcy : ∀ x, (ap w x).cell? ⟨g0, 0, none⟩ = some (.slice (some ⟨q0, 0, none⟩) p0.length 64) := fun x => (ap_ext w x).cell hcg
  repeat (first | (refine Mix.mix_q rfl rfl rfl (fun K hK => ?_); (conv => arg 2; whnf); (first | (go_big_quiet_op; refine hK _ ?_) | (go_simp; refine hK _ ?_)); clear hK K) | (refine Mix.mix_nilK rfl rfl rfl rfl (fun K hK => ?_); (conv => arg 1; whnf); go_simp; refine hK _ ?_; clear hK K))
  (refine Mix.mix_nil (fun w2 hE2 => ?_); clear hap hapf; dsimp only [Exit.then])
  clear hcx hcy
  replace hE2 := (Ext.refl _).drew'.trans hE2
  have hw2 := hE2.size
  go_wp2
  replace h := h.turn (F := []) (Turn.of_ext hE2) (by simp)
  clear hcell hcg hd
  have hl2 := blk_lt h.cell
  have hcell2 : w2.cell? ⟨r, 0, none⟩ = some (.slice (some ⟨g0, 0, none⟩) 1 c0) := by rw [blk_cell h.cell]; rfl
  have hrow2 := h.row
  refine Mix.wp_region_mixK [r] (.c 0 (.c 1 (.c 2 (.c 3 (.c 4 (.c 5 (.c 6 (.c 7 (.c 8 (.c 9 (.c 10 (.c 11 (.c 12 (.c 13 (.e 14 (.e 15 (.e 16 (.c 17 (.c 18 (.e 19 .done)))))))))))))))))))) (by kernel_rfl) (by kernel_rfl) (by simpa using hl2) ?_
  have hcx := Mix.Keeps.cell (L := [r]) (by simp) hcell2
  repeat (first | (refine Mix.mix_q rfl rfl rfl (fun K hK => ?_); (conv => arg 2; whnf); (first | (go_big_quiet_op; refine hK _ ?_) | (go_simp; refine hK _ ?_)); clear hK K) | (refine Mix.mix_nilK rfl rfl rfl rfl (fun K hK => ?_); (conv => arg 1; whnf); go_simp; refine hK _ ?_; clear hK K))
  refine Mix.mix_one rfl rfl (fun w3 hE3 K hK => ?_)
  (conv => arg 2; whnf)
  go_big_op
  rw [show (Instr.makeSlice 147 (.int .i64 0) (.int .i64 256)).run Try.prog w3 = _ from make_words 256 (by omega) w3]
  go_simp
  refine hK _ _ (Mix.yes (Mix.Keeps.ext (by simpa using hl2) w2.drew _ (fun _ _ => rfl) (hE3.alloc' _))) ?_
  clear hK K
  refine Mix.mix_one rfl rfl (fun w4 hE4 K hK => ?_)
  (conv => arg 2; whnf)
  go_big_op
  have E3 : Ext w2 w3 := (Ext.refl _).drew'.trans hE3
  have E4 : Ext w2 w4 := E3.trans (((Ext.refl _).alloc' _).trans hE4)
  refine hK _ _ (Mix.yes (Mix.Keeps.ext (by simpa using hl2) w2 _ (fun _ _ => rfl) (E4.alloc' _))) ?_
  clear hK K
  refine Mix.mix_one rfl rfl (fun w5 hE5 K hK => ?_)
  (conv => arg 2; whnf)
  have E5 : Ext w2 w5 := (E4.alloc' _).trans hE5
  have hrow5 := ownsRow_turn (F := []) hrow2 (Turn.of_ext E5) (by simp)
  obtain ⟨i1, hi1, hy0, hy1, hy2⟩ := info_parts Try.infoWords
  refine wp_append_at w5 _ _ 138 rfl 0 147 i1 (.slice none 0 0) 1 24 Try.underlying138 hi1 hy0 hy1 hy2 rfl (by decide) _ _ _ rfl hrow5 ⟨w4.heap.size, 0, none⟩ 1 1 [.slice (some ⟨w3.heap.size, 0, none⟩) 0 256] rfl rfl ?_ ?_ (by simp [maxLen]) (by simp) (by omega) ?_
  · exact fun j u hj => hE5.cell (cell_one_new _ _ _ j u hj)
  · simp [Value.oneCell']
  intro v6 w6 hrow6 hg6 hat6
  have hap := h.apart
  have hr5 : r < w5.heap.size := Nat.lt_of_lt_of_le hl2 E5.size
  have h6r : w6.heap[r]? = w2.heap[r]? := (hg6.block r hr5 (fun e => row_ne_own hap e.symm)).trans (E5.block r hl2)
  go_simp
  refine hK _ _ (Mix.yes (fun b hb => by simp only [List.mem_singleton] at hb; subst hb; exact h6r)) ?_
  clear hK K
  repeat (first | (refine Mix.mix_q rfl rfl rfl (fun K hK => ?_); (conv => arg 2; whnf); (first | (go_big_quiet_op; refine hK _ ?_) | (go_simp; refine hK _ ?_)); clear hK K) | (refine Mix.mix_nilK rfl rfl rfl rfl (fun K hK => ?_); (conv => arg 1; whnf); go_simp; refine hK _ ?_; clear hK K))
  refine Mix.mix_last rfl rfl (by kernel_rfl) (fun w7 hE7 K hK => ?_)
  (conv => arg 2; whnf)
  obtain ⟨g, cp, rfl⟩ : ∃ g cp, v6 = .slice (some ⟨g, 0, none⟩) (1 + 1) cp := by
    rcases hrow6.2 with ⟨_, h0⟩ | ⟨g, cp, cur, rfl, _⟩
    · exact absurd h0 (by simp)
    · exact ⟨g, cp, rfl⟩
  have h7r : w7.heap[r]? = some (.cells #[.slice (some ⟨g0, 0, none⟩) 1 c0] 140 (0, 0)) := (hE7.blk (h6r.trans h.cell))
  have h7c : w7.cell? ⟨r, 0, none⟩ = some (.slice (some ⟨g0, 0, none⟩) 1 c0) := by rw [blk_cell h7r]; rfl
  have h7f : w7.frozen? ⟨r, 0, none⟩ = false := blk_free h7r 0
  go_big_op
  refine hK _ _ (fun w8 hE8 => ?_)
  clear hK K
  dsimp only [Exit.then]
  have hpush := push_end (ps := [p0]) (C := 256) h rfl (by decide) E3 hE4 (((Ext.refl _).alloc' _).trans hE5) (by have := hE5.size; simp at this; omega) hrow6 hg6 (by
    rcases hat6 with e | e
    · exact .inl e.symm
    · right; simpa [Value.ownBlock] using e) hE7 hE8
  clear h7r h7c h7f h6r hat6 hg6 hrow6 hrow5 hrow2 hcell2 hcx E4 hE4 hE5 hE7 hE8 hap
  go_wp2
  obtain ⟨h8, T28, hgv, hz3⟩ := hpush
  clear h
  obtain ⟨q, hqe⟩ : ∃ q, q = w3.heap.size := ⟨_, rfl⟩
  obtain ⟨p, hpe, hp⟩ : ∃ p : List Int, p = [] ∧ p.length + 3 ≤ 256 := ⟨[], rfl, by simp⟩
  rw [← hqe, ← hpe] at h8
  have hq : ([q0] ++ [q])[1]? = some q := rfl
  have h := h8
  clear h8
  rw [← hqe] at hz3
  have hpe' := Lib.hid hpe
  clear hpe hqe
  have hl2 : r < w8.heap.size := blk_lt h.cell
  have hgl2 : g < w8.heap.size := (h.row.lt g rfl).2
  have hcell2 : w8.cell? ⟨r, 0, none⟩ = some (.slice (some ⟨g, 0, none⟩) (1 + 1) cp) := by rw [blk_cell h.cell]; rfl
  have hcg2 : w8.cell? ⟨g, 1, none⟩ = some (.slice (some ⟨q, 0, none⟩) p.length 256) := by
    have := h.row.cellAt 1 (by simp)
    rw [heads_get (p := p) (q := q) (by simp) hq] at this
    exact this
  refine Mix.wp_region_mixK [r, g] (.c 0 (.c 1 (.c 2 (.c 3 (.c 4 (.c 5 (.c 6 (.c 7 (.c 8 (.c 9 (.c 10 (.c 11 (.c 12 (.c 13 (.c 14 (.c 15 (.c 16 (.c 17 (.e 18 (.e 19 (.c 20 (.e 21 .done)))))))))))))))))))))) (by kernel_rfl) (by kernel_rfl) (by simp; exact ⟨hl2, hgl2⟩) ?_
  have hcx := Mix.Keeps.cell (L := [r, g]) (by simp) hcell2
  have hcy := Mix.Keeps.cell (L := [r, g]) (by simp) hcg2
  repeat (first | (refine Mix.mix_q rfl rfl rfl (fun K hK => ?_); (conv => arg 2; whnf); (first | (go_big_quiet_op; refine hK _ ?_) | (go_simp; refine hK _ ?_)); clear hK K) | (refine Mix.mix_nilK rfl rfl rfl rfl (fun K hK => ?_); (conv => arg 1; whnf); go_simp; refine hK _ ?_; clear hK K))
  refine Mix.mix_one rfl rfl (fun w4 hE4 K hK => ?_)
  (conv => arg 2; whnf)
  go_big_op
  have hr4 : r < w4.heap.size := Nat.lt_of_lt_of_le hl2 (by have := hE4.size; simpa using this)
  have E4 : Ext w8 w4 := (Ext.refl _).drew'.trans hE4
  have hL2 : ∀ b ∈ [r, g], b < w8.heap.size := by simp; exact ⟨hl2, hgl2⟩
  refine hK _ _ (Mix.yes (Mix.Keeps.ext hL2 w8 _ (fun _ _ => rfl) (E4.alloc' _))) ?_
  clear hK K
  refine Mix.mix_one rfl rfl (fun w5 hE5 K hK => ?_)
  (conv => arg 2; whnf)
  have E5 : Ext w8 w5 := (E4.alloc' _).trans hE5
  have hpart2 := h.part 1 p q (by simp) hq
  have hpart5 := ownsRow_turn (F := []) hpart2 (Turn.of_ext E5) (by simp)
  obtain ⟨i1, hi1, hy0, hy1, hy2⟩ := info_parts Try.infoU32
  refine Go.wp_append_own_spare w5 _ _ 147 rfl 0 150 i1 1 Try.underlying147 hi1 hy1 q p.length 256 _ rfl hpart5 ⟨w4.heap.size, 0, none⟩ 1 1 [.int .u32 (bits .or .u32 (n * 4) kind)] rfl rfl ?_ ?_ (by omega) ?_
  · exact fun j u hj => hE5.cell (cell_one_new _ _ _ j u hj)
  · simp [Value.oneCell']
  intro w6 hrow6 hg6
  obtain ⟨hqg, hqr, hgr⟩ := h.ne (List.mem_of_getElem? hq)
  have hr5 : r < w5.heap.size := Nat.lt_of_lt_of_le hl2 E5.size
  have hg5 : g < w5.heap.size := Nat.lt_of_lt_of_le hgl2 E5.size
  have h6r : w6.heap[r]? = w8.heap[r]? := (hg6.block r hr5 (fun e => hqr (by cases e; rfl))).trans (E5.block r hl2)
  have h6g : w6.heap[g]? = w8.heap[g]? := (hg6.block g hg5 (fun e => hqg (by cases e; rfl))).trans (E5.block g hgl2)
  go_simp
  refine hK _ _ (Mix.yes (fun b hb => by simp only [List.mem_cons, List.not_mem_nil, or_false] at hb; rcases hb with rfl | rfl; exact h6r; exact h6g)) ?_
  clear hK K
  repeat (first | (refine Mix.mix_q rfl rfl rfl (fun K hK => ?_); (conv => arg 2; whnf); (first | (go_big_quiet_op; refine hK _ ?_) | (go_simp; refine hK _ ?_)); clear hK K) | (refine Mix.mix_nilK rfl rfl rfl rfl (fun K hK => ?_); (conv => arg 1; whnf); go_simp; refine hK _ ?_; clear hK K))
  refine Mix.mix_last rfl rfl (by kernel_rfl) (fun w7 hE7 K hK => ?_)
  (conv => arg 2; whnf)
  have T26 : Turn [g, q] w8 w6 := (Turn.of_ext E5).seq (turn_grown hg6 (by simp))
  have hgl6 : g < w6.heap.size := Nat.lt_of_lt_of_le hg5 hg6.size
  have hrow7 := ownsRow_blk h.row ((hE7.block g hgl6).trans h6g)
  have h7c : w7.cell? ⟨g, 1, none⟩ = some (.slice (some ⟨q, 0, none⟩) p.length 256) := by
    have := hrow7.cellAt 1 (by simp)
    rw [heads_get (p := p) (q := q) (by simp) hq] at this
    exact this
  have h7f := hrow7.frozenAt 1
  go_big_op
  refine hK _ _ (fun w8 hE8 => ?_)
  clear hK K
  dsimp only [Exit.then]
  have hfin := grow_end (ps := [p0]) (p := p) (p' := p ++ [n * 4 + kind]) h hq (by rw [or_low hk h0 h1] at hrow6; rw [List.length_append, List.length_singleton, List.map_append]; exact hrow6) T26 h6g hE7 (by rw [List.length_append]; exact hE8)
  clear hrow7 h7c h7f hcx hcy hpart2 hpart5 hrow6 hg6 h6r h6g hcell2 hcg2
  go_wp2
  refine bodyPost_ret (results_none rfl _ _ _) rfl ?_
  have hpe := hpe'.out
  subst hpe
  have hgw : g = g0 ∨ w.heap.size ≤ g := by
    rcases hgv with e | e
    · simp only [Value.ownBlock, Option.some.injEq] at e
      exact .inl e.symm
    · omega
  have hqw : w.heap.size ≤ q := by omega
  refine ⟨rfl, g, cp, q, hfin.1, ((Turn.of_ext hE2).seq T28).trans hfin.2 (fun x hx => ?_), hgw, hqw⟩
  simp only [List.mem_cons, List.not_mem_nil, or_false] at hx
  rcases hx with rfl | rfl
  · rcases hgw with e | e
    · exact .inl (by simp [e, Value.ownBlock])
    · exact .inr e
  · exact .inr hqw
end Go.Proofs.Ytoipadeeochbnaa
