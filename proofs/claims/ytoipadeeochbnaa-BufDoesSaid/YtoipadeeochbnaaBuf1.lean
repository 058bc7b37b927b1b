import Derived.Test.YtoipadeeochbnaaSame
namespace Go.Proofs.Ytoipadeeochbnaa
open Go.RowKit Mix
set_option linter.unusedVariables false
attribute [local go_sem] Mix.calm Oper.quietUpon
/-! A BUFFER -/
/-- A buffer at block b: it records with p; its words; what was seen; the blocks that are its own. -/
structure BufAt (w : World) (b : Nat) (p : Option Nat) (xs : List Int) (es : List (Int × Int)) (v : Value) (Fr : List Nat) : Prop where
  cell : w.heap[b]? = some (.cells #[ptr p, v] 152 (0, 0))
  row : w.ownsRow 0 25 1 v xs.length (xs.map (Value.int .i64))
  nil : xs = [] → v = .slice none 0 0
  rc : Rc w p es Fr
  apart : b ∉ v.ownBlock.toList ++ Fr ∧ ∀ x ∈ v.ownBlock.toList, x ∉ Fr
def bfoot (b : Nat) (v : Value) (Fr : List Nat) : List Nat := b :: (v.ownBlock.toList ++ Fr)
def Bf (w : World) (b : Nat) (p : Option Nat) (xs : List Int) (es : List (Int × Int)) (F : List Nat) : Prop := ∃ v Fr, BufAt w b p xs es v Fr ∧ F = bfoot b v Fr
/-- What comes back is v; the buffer has these words, and has seen es; nothing but F has turned. -/
def BTold (v : Value) (b : Nat) (p : Option Nat) (xs : List Int) (es : List (Int × Int)) (F : List Nat) (w : World) (e : Ending) (w' : World) : Prop :=
  e = .returned v ∧ ∃ F', Bf w' b p xs es F' ∧ Turn F w w' ∧ ∀ x ∈ F', x ∈ F ∨ w.heap.size ≤ x
theorem BufAt.turn {w w' : World} {b : Nat} {p : Option Nat} {xs : List Int} {es : List (Int × Int)} {v : Value} {Fr G : List Nat} (h : BufAt w b p xs es v Fr) (hb : Turn G w w') (hF : ∀ x ∈ bfoot b v Fr, x ∉ G) : BufAt w' b p xs es v Fr where
  cell := (hb.block b (blk_lt h.cell) (hF b (by simp [bfoot]))).trans h.cell
  row := ownsRow_turn h.row hb (fun x e => hF x (by simp [bfoot, e]))
  nil := h.nil
  rc := h.rc.turn hb (fun x hx => hF x (by simp [bfoot, hx]))
  apart := h.apart
theorem Bf.turn {w w' : World} {b : Nat} {p : Option Nat} {xs : List Int} {es : List (Int × Int)} {F G : List Nat} (h : Bf w b p xs es F) (hb : Turn G w w') (hF : ∀ x ∈ F, x ∉ G) : Bf w' b p xs es F := by
  obtain ⟨v, Fr, h1, rfl⟩ := h
  exact ⟨v, Fr, h1.turn hb hF, rfl⟩
theorem Bf.ext {w w' : World} {b : Nat} {p : Option Nat} {xs : List Int} {es : List (Int × Int)} {F : List Nat} (h : Bf w b p xs es F) (hb : Ext w w') : Bf w' b p xs es F := h.turn (Turn.of_ext hb) (G := []) (by simp)
theorem Bf.lt {w : World} {b : Nat} {p : Option Nat} {xs : List Int} {es : List (Int × Int)} {F : List Nat} (h : Bf w b p xs es F) : ∀ x ∈ F, x < w.heap.size := by
  obtain ⟨v, Fr, h1, rfl⟩ := h
  intro x hx
  simp only [bfoot, List.mem_cons, List.mem_append, Option.mem_toList] at hx
  rcases hx with rfl | hx | hx
  · exact blk_lt h1.cell
  · exact (h1.row.lt x hx).2
  · exact h1.rc.lt x hx
theorem Bf.mem {w : World} {b : Nat} {p : Option Nat} {xs : List Int} {es : List (Int × Int)} {F : List Nat} (h : Bf w b p xs es F) : b ∈ F := by
  obtain ⟨v, Fr, h1, rfl⟩ := h
  simp [bfoot]
theorem Bf.rc {w : World} {b : Nat} {p : Option Nat} {xs : List Int} {es : List (Int × Int)} {F : List Nat} (h : Bf w b p xs es F) : ∃ Fr, Rc w p es Fr ∧ ∀ x ∈ Fr, x ∈ F := by
  obtain ⟨v, Fr, h1, rfl⟩ := h
  exact ⟨Fr, h1.rc, fun x hx => by simp [bfoot, hx]⟩
theorem own_form {w : World} {base : Nat} {e : TypeId} {v : Value} {xs : List Value} {n : Nat} (h : w.ownsRow base e 1 v n xs) : ∃ a c, v = .slice a n c := by
  rcases h.2 with ⟨rfl, rfl⟩ | ⟨g, cap, cur, rfl, _⟩
  · exact ⟨_, _, rfl⟩
  · exact ⟨_, _, rfl⟩
theorem Len_bf (b : Nat) (p : Option Nat) (xs : List Int) (es : List (Int × Int)) (v : Value) (Fr : List Nat) (w : World) (h : BufAt w b p xs es v Fr) :
    Calls Try.prog 37 #[.pointer (some ⟨b, 0, none⟩)] w fun e w' => e = .returned (.int .i64 xs.length) ∧ w = w' := by
  obtain ⟨a, c, rfl⟩ := own_form h.row
  have hc : w.cell? ⟨b, 1, none⟩ = some (.slice a xs.length c) := by rw [blk_cell h.cell]; rfl
  go_enter Try.func37, Try.ntmps37
  go_wp2
  go_ret
  exact ⟨rfl, rfl⟩
theorem Len_nil (w : World) : Calls Try.prog 37 #[.pointer none] w fun e w' => e = .returned (.int .i64 0) ∧ w = w' := by
  go_enter Try.func37, Try.ntmps37
  go_wp2
  go_ret
  exact ⟨rfl, rfl⟩
theorem Trace_bf (b : Nat) (p : Option Nat) (xs : List Int) (es : List (Int × Int)) (v : Value) (Fr : List Nat) (w : World) (h : BufAt w b p xs es v Fr) :
    Calls Try.prog 64 #[.pointer (some ⟨b, 0, none⟩)] w fun e w' => e = .returned (ptr p) ∧ w = w' := by
  have hc : w.cell? ⟨b, 0, none⟩ = some (ptr p) := by rw [blk_cell h.cell]; rfl
  go_enter Try.func64, Try.ntmps64
  go_wp2
  go_ret
  exact ⟨rfl, rfl⟩
/-- Is it a place? -/
def isPlace (i : Int) (n : Nat) : Prop := 0 ≤ i ∧ i < n
theorem has_out (b : Nat) (p : Option Nat) (xs : List Int) (es : List (Int × Int)) (v : Value) (Fr : List Nat) (i : Int) (w : World) (h : BufAt w b p xs es v Fr) (hi : ¬ isPlace i xs.length) :
    Calls Try.prog 105 #[.pointer (some ⟨b, 0, none⟩), .int .i64 i] w fun e w' => e = .returned (.bool false) ∧ w = w' := by
  unfold isPlace at hi
  by_cases h0 : i < 0
  · go_enter Try.func105, Try.ntmps105
    go_wp2
    go_ret
    exact ⟨rfl, rfl⟩
  · have h1 : (xs.length : Int) ≤ i := by omega
    go_enter Try.func105, Try.ntmps105
    go_wp2_with fail
    refine (Len_bf b p xs es v Fr w h).mono ?_
    rintro e w' ⟨rfl, rfl⟩
    go_wp2
    go_ret
    exact ⟨rfl, rfl⟩
theorem has_nil (i : Int) (w : World) : Calls Try.prog 105 #[.pointer none, .int .i64 i] w fun e w' => e = .returned (.bool false) ∧ w = w' := by
  by_cases h0 : i < 0
  · go_enter Try.func105, Try.ntmps105
    go_wp2
    go_ret
    exact ⟨rfl, rfl⟩
  · have h1 : 0 ≤ i := by omega
    go_enter Try.func105, Try.ntmps105
    go_wp2_with fail
    refine (Len_nil w).mono ?_
    rintro e w' ⟨rfl, rfl⟩
    go_wp2
    go_ret
    exact ⟨rfl, rfl⟩
theorem has_in (b : Nat) (p : Option Nat) (xs : List Int) (es : List (Int × Int)) (v : Value) (Fr : List Nat) (i : Int) (w : World) (h : BufAt w b p xs es v Fr) (hi : isPlace i xs.length) (hx : xs.length ≤ 1048576) (hl : p = none ∨ es.length < 316) :
    Calls Try.prog 105 #[.pointer (some ⟨b, 0, none⟩), .int .i64 i] w fun e w' => e = .returned (.bool true) ∧ ∃ Fr', BufAt w' b p xs (es ++ [(1, i)]) v Fr' ∧ Turn Fr w w' ∧ ∀ x ∈ Fr', x ∈ Fr ∨ w.heap.size ≤ x := by
  obtain ⟨hi0, hi1⟩ := hi
  have hc : w.cell? ⟨b, 0, none⟩ = some (ptr p) := by rw [blk_cell h.cell]; rfl
  go_enter Try.func105, Try.ntmps105
  go_wp2_with fail
  refine (Len_bf b p xs es v Fr w h).mono ?_
  rintro e w' ⟨rfl, rfl⟩
  go_wp2_with fail
  refine (Idx_rc p es Fr i hi0 (by omega) hl w h.rc).mono ?_
  rintro e w' ⟨rfl, Fr', hR', hT, hF⟩
  go_wp2
  go_ret
  have hap := h.apart
  refine ⟨rfl, Fr', ⟨?_, ?_, h.nil, hR', ?_, ?_⟩, hT, hF⟩
  · exact (hT.block b (blk_lt h.cell) (fun hm => hap.1 (by simp [hm]))).trans h.cell
  · exact ownsRow_turn h.row hT (fun x e => hap.2 x (by simp [e]))
  · intro hm
    rcases List.mem_append.1 hm with hm | hm
    · exact hap.1 (by simp [hm])
    · rcases hF b hm with h1 | h1
      · exact hap.1 (by simp [h1])
      · have := blk_lt h.cell; omega
  · intro x hx hm
    rcases hF x hm with h1 | h1
    · exact hap.2 x hx h1
    · have := (h.row.lt x (by simpa using hx)).2; omega
theorem Get_out (b : Nat) (p : Option Nat) (xs : List Int) (es : List (Int × Int)) (v : Value) (Fr : List Nat) (i : Int) (w : World) (h : BufAt w b p xs es v Fr) (hi : ¬ isPlace i xs.length) :
    Calls Try.prog 35 #[.pointer (some ⟨b, 0, none⟩), .int .i64 i] w fun e w' => e = .returned (.agg #[.int .i64 0]) ∧ Ext w w' := by
  go_enter Try.func35, Try.ntmps35
  go_wp2_with fail
  refine (has_out b p xs es v Fr i _ (h.turn (Turn.of_ext ((Ext.refl w).alloc' _)) (G := []) (by simp)) hi).mono ?_
  rintro e w' ⟨rfl, rfl⟩
  go_wp2_with fail
  refine (of_any 0 _).mono ?_
  rintro e w2 ⟨rfl, hE⟩
  have hc1 := hE.cells (w.heap.size + 1) (by first | omega | (simp; done) | (simp; omega)); have hf1 := hE.marks (w.heap.size + 1) (by first | omega | (simp; done) | (simp; omega)); have hs1 := hE.sizes (w.heap.size + 1) (by first | omega | (simp; done) | (simp; omega)); have hg1 := hE.rules.1; have hh1 := hE.rules.2; have hl1_0 : w.heap.size < w2.heap.size := (by omega)
  go_wp2
  refine bodyPost_ret (v := _) (by simp [results, Try.results35, go_sem, *]; rfl) rfl ?_
  exact ⟨rfl, by (repeat' (first | exact Ext.refl _ | assumption | refine Ext.alloc' ?_ _ | (refine Ext.set' ?_ (by first | omega | (simp; done) | (simp; omega)) _) | refine Ext.drew' ?_ | refine Ext.drewN' ?_ _ | refine Ext.trans ?_ (by assumption)))⟩
theorem Get_nil (i : Int) (w : World) : Calls Try.prog 35 #[.pointer none, .int .i64 i] w fun e w' => e = .returned (.agg #[.int .i64 0]) ∧ Ext w w' := by
  go_enter Try.func35, Try.ntmps35
  go_wp2_with fail
  refine (has_nil i _).mono ?_
  rintro e w' ⟨rfl, rfl⟩
  go_wp2_with fail
  refine (of_any 0 _).mono ?_
  rintro e w2 ⟨rfl, hE⟩
  have hc1 := hE.cells (w.heap.size + 1) (by first | omega | (simp; done) | (simp; omega)); have hf1 := hE.marks (w.heap.size + 1) (by first | omega | (simp; done) | (simp; omega)); have hs1 := hE.sizes (w.heap.size + 1) (by first | omega | (simp; done) | (simp; omega)); have hg1 := hE.rules.1; have hh1 := hE.rules.2; have hl1_0 : w.heap.size < w2.heap.size := (by omega)
  go_wp2
  refine bodyPost_ret (v := _) (by simp [results, Try.results35, go_sem, *]; rfl) rfl ?_
  exact ⟨rfl, by (repeat' (first | exact Ext.refl _ | assumption | refine Ext.alloc' ?_ _ | (refine Ext.set' ?_ (by first | omega | (simp; done) | (simp; omega)) _) | refine Ext.drew' ?_ | refine Ext.drewN' ?_ _ | refine Ext.trans ?_ (by assumption)))⟩
theorem Set_nil (i x : Int) (w : World) : Calls Try.prog 34 #[.pointer none, .int .i64 i, .agg #[.int .i64 x]] w fun e w' => e = .returned (.tuple #[]) ∧ Ext w w' := by
  go_enter Try.func34, Try.ntmps34
  go_wp2_with fail
  refine (has_nil i _).mono ?_
  rintro e w' ⟨rfl, rfl⟩
  go_wp2
  go_end0
  exact ⟨rfl, by (repeat' (first | exact Ext.refl _ | assumption | refine Ext.alloc' ?_ _ | (refine Ext.set' ?_ (by first | omega | (simp; done) | (simp; omega)) _) | refine Ext.drew' ?_ | refine Ext.drewN' ?_ _ | refine Ext.trans ?_ (by assumption)))⟩
theorem Set_out (b : Nat) (p : Option Nat) (xs : List Int) (es : List (Int × Int)) (v : Value) (Fr : List Nat) (i x : Int) (w : World) (h : BufAt w b p xs es v Fr) (hi : ¬ isPlace i xs.length) :
    Calls Try.prog 34 #[.pointer (some ⟨b, 0, none⟩), .int .i64 i, .agg #[.int .i64 x]] w fun e w' => e = .returned (.tuple #[]) ∧ Ext w w' := by
  go_enter Try.func34, Try.ntmps34
  go_wp2_with fail
  refine (has_out b p xs es v Fr i _ (h.turn (Turn.of_ext ((Ext.refl w).alloc' _)) (G := []) (by simp)) hi).mono ?_
  rintro e w' ⟨rfl, rfl⟩
  go_wp2
  go_end0
  exact ⟨rfl, by (repeat' (first | exact Ext.refl _ | assumption | refine Ext.alloc' ?_ _ | (refine Ext.set' ?_ (by first | omega | (simp; done) | (simp; omega)) _) | refine Ext.drew' ?_ | refine Ext.drewN' ?_ _ | refine Ext.trans ?_ (by assumption)))⟩
end Go.Proofs.Ytoipadeeochbnaa
