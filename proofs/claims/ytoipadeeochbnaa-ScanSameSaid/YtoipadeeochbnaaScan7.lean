import Derived.Test.YtoipadeeochbnaaScan6
namespace Go.Proofs.Ytoipadeeochbnaa
open Go.RowKit Mix
set_option linter.unusedVariables false
attribute [local go_sem] Mix.calm Oper.quietUpon Oper.semAt_some
def digV (s n i : Int) : Int := bits .and .i64 (s / 2 ^ (clip63 (8 * (n - 1 - i))).toNat) 255
theorem digit_any (s n i : Int) (hn : 0 ≤ n ∧ n ≤ 8) (hi : 0 ≤ i ∧ i ≤ 8) (w : World) :
    Calls Try.prog 137 #[.agg #[.int .i64 s], .int .i64 n, .int .i64 i] w fun e w' => e = .returned (.agg #[.int .i64 (digV s n i)]) ∧ Ext w w' := by
  obtain ⟨hn0, hn1⟩ := hn
  obtain ⟨hi0, hi1⟩ := hi
  go_enter Try.func137, Try.ntmps137
  go_wp2_with fail
  refine (Shr_any s (8 * (n - 1 - i)) _).mono ?_
  rintro e w2 ⟨rfl, hE2⟩
  have kR : Boxed w2 (w.heap.size + 1) 25 (.int .i64 0) := by
    have := Boxed.new (w.alloc (.cells #[.int .i64 s] 25)) 25 (.int .i64 0)
    rw [World.size_alloc] at this
    exact hE2.blk this
  have hE02 : Ext w w2 := (((Ext.refl w).alloc' _).alloc' _).trans hE2
  go_wp2_with fail
  refine (of_any 255 _).mono ?_
  rintro e w3 ⟨rfl, hE3⟩
  go_wp2_with fail
  refine (And_any _ 255 _).mono ?_
  rintro e w4 ⟨rfl, hE4⟩
  have k4 := hE4.blk (hE3.blk kR)
  have c4 := Boxed.cell k4
  have f4 := Boxed.frozen k4
  have hE04 := (hE02.trans hE3).trans hE4
  go_wp2
  have c5 := Boxed.cell (Boxed.set (.int .i64 (bits .and .i64 (s / 2 ^ (clip63 (8 * (n - 1 - i))).toNat) 255)) k4)
  refine bodyPost_ret (v := _) (by simp [results, Try.results137, go_sem, c5]; rfl) rfl ?_
  exact ⟨rfl, hE04.set' (by simp) _⟩
/-- A byte laid over a word, where the place is the byte's. -/
def putK (a s : Int) (N : Nat) (i x : Int) : Nat → Int
  | 0 => x
  | k + 1 => bits .or .i64 (putK a s N i x k) (bits .and .i64 (mk (decide (a = i - (k : Int)))) (digV s N k))
def putW (a s : Int) (N : Nat) (i x : Int) : Int := putK a s N i x N
/-- The state where a round has a box of its own, y. -/
def StA (w1 : World) (O F : List Nat) (b : Nat) (p : Option Nat) (xs : List Int) (es : List (Int × Int)) (y : Nat) (W : World) : Prop :=
  ∃ F', Bf W b p xs es F' ∧ (∀ x ∈ F', x ∈ F ∨ w1.heap.size ≤ x) ∧ Turn (O ++ F) w1 W ∧ y ∉ F' ∧ w1.heap.size ≤ y
section
variable {w1 W W' : World} {O F : List Nat} {b y : Nat} {p : Option Nat} {xs : List Int} {es : List (Int × Int)}
theorem StA.st (h : StA w1 O F b p xs es y W) : St w1 O F b p xs es W := let ⟨F', h1, h2, h3, _, _⟩ := h; ⟨F', h1, h2, h3⟩
theorem St.fresh (h : St w1 O F b p xs es W) (o : Obj) : StA w1 O F b p xs es W.heap.size (W.alloc o) := by
  obtain ⟨F', h1, h2, h3⟩ := h
  refine ⟨F', h1.ext ((Ext.refl W).alloc' o), h2, h3.seq (Turn.of_ext ((Ext.refl W).alloc' o)), fun hm => ?_, h3.size⟩
  have := h1.lt _ hm
  omega
theorem StA.ext (h : StA w1 O F b p xs es y W) (k : Ext W W') : StA w1 O F b p xs es y W' := by
  obtain ⟨F', h1, h2, h3, h4, h5⟩ := h
  exact ⟨F', h1.ext k, h2, h3.seq (Turn.of_ext k), h4, h5⟩
theorem StA.book (h : StA w1 O F b p xs es y W) (k : Book w1.heap.size W W') : StA w1 O F b p xs es y W' := by
  obtain ⟨F', h1, h2, h3, h4, h5⟩ := h
  exact ⟨F', h1.book k, h2, h3.book k, h4, h5⟩
theorem turn_old {F G : List Nat} {a b c : World} (h : Turn F a b) (k : Turn G b c) (hG : ∀ x ∈ G, a.heap.size ≤ x ∨ x ∈ F) : Turn F a c := h.trans k (fun x hx => (hG x hx).symm)
theorem StA.set (h : StA w1 O F b p xs es y W) (v : Value) : StA w1 O F b p xs es y (W.setCell ⟨y, 0, none⟩ v) := by
  obtain ⟨F', h1, h2, h3, h4, h5⟩ := h
  refine ⟨F', h1.turn (turn_set (F := [y]) (by simp)) (fun x hx hm => ?_), h2, turn_old h3 (turn_set (F := [y]) (by simp)) (fun x hx => ?_), h4, h5⟩
  · simp only [List.mem_singleton] at hm
    subst hm
    exact h4 hx
  · simp only [List.mem_singleton] at hx
    subst hx
    exact .inl h5
end
end Go.Proofs.Ytoipadeeochbnaa
