import Derived.Test.YtoipadeeochbnaaEach
import Derived.Shelf.Abstract
namespace Go.Proofs.Ytoipadeeochbnaa
open Go.RowKit Mix
set_option linter.unusedVariables false
attribute [local go_sem] Mix.calm Oper.quietUpon Oper.semAt_some
theorem ownsRow_book {B base : Nat} {e : TypeId} {size : Nat} {v : Value} {n : Nat} {xs : List Value} {W W' : World} (h : W.ownsRow base e size v n xs) (hb : Book B W W') : W'.ownsRow base e size v n xs := by
  obtain ⟨h1, h2⟩ := h
  refine ⟨h1, ?_⟩
  rcases h2 with h2 | ⟨g, cap, cur, rfl, hg, hc, r⟩
  · exact .inl h2
  · exact .inr ⟨g, cap, cur, rfl, hg, hb.same g _ (.inr rfl) hc, r⟩
theorem Rc.book {B : Nat} {W W' : World} {p : Option Nat} {es : List (Int × Int)} {F : List Nat} (h : Rc W p es F) (hb : Book B W W') : Rc W' p es F := by
  cases p with
  | none => exact h
  | some r =>
    obtain ⟨h0, v, qs, h1, rfl, h2⟩ := h
    exact ⟨h0, v, qs, ⟨hb.same r _ (.inr rfl) h1.cell, ownsRow_book h1.row hb, h1.len, fun j p q hp hq => ownsRow_book (h1.part j p q hp hq) hb, h1.apart⟩, rfl, h2⟩
theorem ext_book {B : Nat} {w W W' : World} (h : Ext w W) (hB : w.heap.size ≤ B) (hb : Book B W W') : Ext w W' :=
  ⟨hb.os.trans h.os, hb.tape.trans h.tape, hb.output.trans h.output, Nat.le_trans h.size hb.size, fun k hk => by
    have h1 := h.block k hk
    have hk1 := Nat.lt_of_lt_of_le hk h.size
    rw [Array.getElem?_eq_getElem hk1] at h1
    rw [← h1]
    exact hb.same k _ (.inl (by omega)) (Array.getElem?_eq_getElem hk1)⟩
theorem boxed_book {B b : Nat} {t : TypeId} {v : Value} {W W' : World} (h : Boxed W b t v) (hb : Book B W W') : Boxed W' b t v := hb.same b _ (.inr rfl) h
def countE (es : List (Int × Int)) (k : Int) : Int := (es.filter fun e => e.1 == k).length
theorem countE_snoc (pre : List (Int × Int)) (x : Int × Int) (k : Int) : countE (pre ++ [x]) k = if x.1 == k then countE pre k + 1 else countE pre k := by
  unfold countE
  rw [List.filter_append]
  by_cases h : (x.1 == k) = true <;> simp [h]
theorem countE_bd (pre : List (Int × Int)) (k : Int) : 0 ≤ countE pre k ∧ countE pre k ≤ pre.length := by
  unfold countE
  exact ⟨by omega, by have := List.length_filter_le (fun e : Int × Int => e.1 == k) pre; omega⟩
theorem Count_rc (r : Nat) (es : List (Int × Int)) (F : List Nat) (kind : Int) (w : World) (h : Rc w (some r) es F) (hl : es.length ≤ 316) :
    Calls Try.prog 30 #[.pointer (some ⟨r, 0, none⟩), .int .i64 kind] w fun e w' => e = .returned (.int .i64 (countE es kind)) ∧ Ext w w' := by
  refine (callsIn_wide (n := 9)).1 (callsIn_of_wp_marks Try.func30 rfl trivial ?_ rfl)
  simp only [Try.ntmps30, List.size_toArray, List.length_cons, List.length_nil, Nat.reduceAdd, Nat.reduceSub, Array.replicate_succ, Array.replicate_zero, List.push_toArray, List.append_toArray, List.nil_append, List.cons_append]
  gi_wp2
  have hE1 : Ext w ((w.alloc (.cells #[.int .i64 kind] 3)).alloc (.cells #[.int .i64 0] 3)) := ((Ext.refl w).alloc' _).alloc' _
  have hB0 : Boxed ((w.alloc (.cells #[.int .i64 kind] 3)).alloc (.cells #[.int .i64 0] 3)) w.heap.size 3 (.int .i64 kind) := (Boxed.new w _ _).alloc _
  have hB1 : Boxed ((w.alloc (.cells #[.int .i64 kind] 3)).alloc (.cells #[.int .i64 0] 3)) (w.heap.size + 1) 3 (.int .i64 0) := by
    have := Boxed.new (w.alloc (.cells #[.int .i64 kind] 3)) 3 (.int .i64 0)
    rwa [World.size_alloc] at this
  have hz : ((w.alloc (.cells #[.int .i64 kind] 3)).alloc (.cells #[.int .i64 0] 3)).heap.size = w.heap.size + 2 := by simp
  generalize (w.alloc (.cells #[.int .i64 kind] 3)).alloc (.cells #[.int .i64 0] 3) = w1 at *
  have hR1 := h.ext hE1
  have hFlt := h.lt
  refine wp_range (gf := 101) (fb := #[.pointer (some ⟨r, 0, none⟩)]) (lb := #[]) rfl (enters_of Try.func101 (by kernel_rfl) rfl) (encs := encE) (fun _ => rfl)
    (J := fun pre W => Boxed W w.heap.size 3 (.int .i64 kind) ∧ Boxed W (w.heap.size + 1) 3 (.int .i64 (countE pre kind)) ∧ Rc W (some r) es F ∧ Ext w W)
    (each_gives r es F _ _ (fun _ _ h => h.2.2.1) (fun _ _ _ h k => ⟨k.blk h.1, k.blk h.2.1, h.2.2.1.ext k, h.2.2.2.trans k⟩))
    (fun pre x a' W => (Boxed W w.heap.size 3 (.int .i64 kind) ∧ Boxed W (w.heap.size + 1) 3 (.int .i64 (countE pre kind)) ∧ Rc W (some r) es F ∧ Ext w W) ∧
      ∃ Bx, w.heap.size + 2 ≤ Bx ∧ W.heap[Bx]? = some (.cells #[.int .i64 x.1, .int .i64 x.2] 145 (0, 0)) ∧
        a' = { tmps := #[.pointer (some ⟨r, 0, none⟩), .int .i64 kind, undef, .pointer (some ⟨w.heap.size, 0, none⟩), .int .i64 0, .pointer (some ⟨w.heap.size + 1, 0, none⟩), .pointer (some ⟨Bx, 0, none⟩), .pointer (some ⟨r, 0, none⟩),
          .func (.func 101) #[.pointer (some ⟨r, 0, none⟩)] #[], .agg #[.int .i64 x.1, .int .i64 x.2], undef, undef, undef, undef, undef, undef, undef], defers := [] })
    (fun _ _ h k => ⟨boxed_book h.1 k, boxed_book h.2.1 k, h.2.2.1.book k, ext_book h.2.2.2 (by omega) k⟩)
    (fun _ _ _ h k => ⟨boxed_book h.1 k, boxed_book h.2.1 k, h.2.2.1.book k, ext_book h.2.2.2 (by omega) k⟩)
    (fun _ _ _ _ _ ⟨h, Bx, h1, h2, h3⟩ k => ⟨⟨boxed_book h.1 k, boxed_book h.2.1 k, h.2.2.1.book k, ext_book h.2.2.2 (by omega) k⟩, Bx, h1, k.same _ _ (.inr rfl) h2, h3⟩)
    ⟨hB0, hB1, hR1, hE1⟩ ?assign ?body ?done
  case assign =>
    rintro l pre x W K hpx ⟨g0, g1, g2, g3⟩ hK
    simp only [encE]
    gi_wp2
    refine hK _ _ ?_ ?_
    · exact (KeepsOthers.alloc _ _).from _
    · have := g1.lt
      exact ⟨⟨g0.alloc _, g1.alloc _, g2.ext ((Ext.refl _).alloc' _), g3.alloc' _⟩, W.heap.size, by omega, World.alloc_heap_new W _, rfl⟩
  case body =>
    rintro l pre x a' W hpx ⟨⟨g0, g1, g2, g3⟩, Bx, hBx, hbx, rfl⟩
    have hc0 := g0.cell
    have hc1 := g1.cell
    have hf1 := g1.frozen
    have hx0 : W.cell? ⟨Bx, 0, none⟩ = some (.int .i64 x.1) := by rw [blk_cell hbx]; rfl
    have hcb := countE_bd pre kind
    have hpl : pre.length ≤ 316 := by have := hpx.length_le; simp at this; omega
    have hcs := countE_snoc pre x kind
    by_cases hxk : (x.1 == kind) = true
    · rw [if_pos hxk] at hcs
      rw [hcs]
      clear hcs
      gi_wp2
      exact ⟨(KeepsOthers.setCell _ _ _).from _, g0.other (by omega) _, g1.set _, g2.turn (turn_set (F := [w.heap.size + 1]) (by simp)) (fun y hy => by have := hFlt y hy; simp; omega), g3.set' (by simp) _⟩
    · have hxk' : (x.1 == kind) = false := by simpa using hxk
      rw [if_neg hxk] at hcs
      rw [hcs]
      clear hcs hxk
      gi_wp2
      exact ⟨(KeepsOthers.refl _).from _, g0, g1, g2, g3⟩
  case done =>
    rintro D W hD ⟨g0, g1, g2, g3⟩ hK
    have hc1 := g1.cell
    gi_wp2
    refine ⟨by simp, .inl ⟨_, _, rfl, run_takeDeferred hK, ?_⟩⟩
    exact ⟨_, results_tmp rfl _ _ _, rfl, ext_book g3 (Nat.le_refl _) (Book.put _ (by omega) hK rfl)⟩
end Go.Proofs.Ytoipadeeochbnaa
