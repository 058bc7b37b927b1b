import Derived.Test.YtoipadeeochbnaaAdd2
namespace Go.Proofs.Ytoipadeeochbnaa
open Go.RowKit Mix
set_option linter.unusedVariables false
theorem ownsRow_form {w : World} {base : Nat} {e : TypeId} {size : Nat} {v : Value} {n : Nat} {xs : List Value} (h : w.ownsRow base e size v n xs) (hn : 0 < n) : ∃ g cp, v = .slice (some ⟨g, 0, none⟩) n cp := by
  rcases h.2 with ⟨_, h0⟩ | ⟨g, cap, _, rfl, _⟩
  · omega
  · exact ⟨g, cap, rfl⟩
theorem Turn.cell {F : List Nat} {w w' : World} (h : Turn F w w') {b : Nat} (hb : b < w.heap.size) (hF : b ∉ F) {o : Nat} : w'.cell? ⟨b, o, none⟩ = w.cell? ⟨b, o, none⟩ := World.cell?_of_block (a := ⟨b, o, none⟩) (h.block b hb hF)
theorem Turn.frozen {F : List Nat} {w w' : World} (h : Turn F w w') {b : Nat} (hb : b < w.heap.size) (hF : b ∉ F) {o : Nat} : w'.frozen? ⟨b, o, none⟩ = w.frozen? ⟨b, o, none⟩ := World.frozen?_of_block (a := ⟨b, o, none⟩) (h.block b hb hF)
/-! A recorder, by its events -/
def evW (e : Int × Int) : Int := e.2 * 4 + e.1
def EvOk (e : Int × Int) : Prop := 0 ≤ e.1 ∧ e.1 ≤ 3 ∧ 0 ≤ e.2 ∧ e.2 < 268435456
def Rc (w : World) : Option Nat → List (Int × Int) → List Nat → Prop
  | none, _, F => F = []
  | some r, es, F => (∀ e ∈ es, EvOk e) ∧ ∃ v qs, RecAt w r (partsOf (es.map evW)) v qs ∧ F = foot r v qs ∧ (es = [] → v = .slice none 0 0)
def ptr (p : Option Nat) : Value := .pointer (p.map fun r => ⟨r, 0, none⟩)
@[simp] theorem ptr_none : ptr none = .pointer none := rfl
@[simp] theorem ptr_some (r : Nat) : ptr (some r) = .pointer (some ⟨r, 0, none⟩) := rfl
/-- What comes back is v; the recorder has es; nothing but F has turned. -/
def Told (v : Value) (p : Option Nat) (es : List (Int × Int)) (F : List Nat) (w : World) (e : Ending) (w' : World) : Prop :=
  e = .returned v ∧ ∃ F', Rc w' p es F' ∧ Turn F w w' ∧ ∀ x ∈ F', x ∈ F ∨ w.heap.size ≤ x
theorem Rc.turn {w w' : World} {p : Option Nat} {es : List (Int × Int)} {F G : List Nat} (h : Rc w p es F) (hb : Turn G w w') (hF : ∀ x ∈ F, x ∉ G) : Rc w' p es F := by
  cases p with
  | none => exact h
  | some r =>
    obtain ⟨h0, v, qs, h1, rfl, h2⟩ := h
    exact ⟨h0, v, qs, h1.turn hb hF, rfl, h2⟩
theorem Rc.ext {w w' : World} {p : Option Nat} {es : List (Int × Int)} {F : List Nat} (h : Rc w p es F) (hb : Ext w w') : Rc w' p es F := h.turn (Turn.of_ext hb) (G := []) (by simp)
theorem Rc.lt {w : World} {p : Option Nat} {es : List (Int × Int)} {F : List Nat} (h : Rc w p es F) : ∀ x ∈ F, x < w.heap.size := by
  cases p with
  | none => have : F = [] := h; subst this; simp
  | some r =>
    obtain ⟨h0, v, qs, h1, rfl, h2⟩ := h
    exact h1.lt
theorem New_rc (w : World) : Calls Try.prog 26 #[] w fun e w' => e = .returned (ptr (some w.heap.size)) ∧ Rc w' (some w.heap.size) [] [w.heap.size] ∧ Ext w w' := by
  go_enter Try.func26, Try.ntmps26
  go_wp2
  go_ret
  refine ⟨rfl, ⟨by simp, .slice none 0 0, [], ⟨heap_new _ _ _ (by simp), World.ownsRow_nil _ _ _ _, rfl, ?_, by simp [Value.ownBlock]⟩, rfl, fun _ => rfl⟩, by (repeat' (first | exact Ext.refl _ | assumption | refine Ext.alloc' ?_ _ | (refine Ext.set' ?_ (by first | omega | (simp; done) | (simp; omega)) _) | refine Ext.drew' ?_ | refine Ext.drewN' ?_ _ | refine Ext.trans ?_ (by assumption)))⟩
  intro j p q hp
  simp [partsOf_nil] at hp
theorem add_rc (p : Option Nat) (es : List (Int × Int)) (F : List Nat) (kind n : Int) (hk : 0 ≤ kind ∧ kind ≤ 3) (h0 : 0 ≤ n) (h1 : n < 268435456) (hl : p = none ∨ es.length < 316) (w : World) (h : Rc w p es F) :
    Calls Try.prog 155 #[ptr p, .int .i64 kind, .int .i64 n] w (Told (.tuple #[]) p (es ++ [(kind, n)]) F w) := by
  cases p with
  | none =>
    refine (addNil_any kind n w).mono ?_
    rintro e w' ⟨rfl, rfl⟩
    exact ⟨rfl, F, h, Turn.refl _ _, fun x hx => .inl hx⟩
  | some r =>
    replace hl := hl.resolve_left (by simp)
    obtain ⟨hes, v, qs, hR, rfl, hv⟩ := h
    have hok : ∀ e ∈ es ++ [(kind, n)], EvOk e := by
      intro e he
      rcases List.mem_append.1 he with h | h
      · exact hes e h
      · simp only [List.mem_singleton] at h
        subst h
        exact ⟨hk.1, hk.2, h0, h1⟩
    have hmap : (es ++ [(kind, n)]).map evW = es.map evW ++ [n * 4 + kind] := by simp [evW]
    have hne : es ++ [(kind, n)] ≠ [] := by simp
    have hlen : (es.map evW).length = es.length := by simp
    rcases Nat.lt_or_ge 62 es.length with hc | hc
    · rw [partsOf_two (by omega)] at hR
      obtain ⟨g, cp, rfl⟩ : ∃ g cp, v = .slice (some ⟨g, 0, none⟩) 2 cp := ownsRow_form hR.row (by simp)
      obtain ⟨q0, q, rfl⟩ : ∃ q0 q, qs = [q0, q] := by
        have := hR.len
        match qs, this with
        | [a, b], _ => exact ⟨a, b, rfl⟩
      refine (add_same1 r g q cp kind n hk ((es.map evW).take 62) ((es.map evW).drop 62) (by simp; omega) [q0, q] w hR rfl h0 h1).mono ?_
      rintro e w' ⟨rfl, hR', hT⟩
      refine ⟨rfl, foot r (.slice (some ⟨g, 0, none⟩) 2 cp) [q0, q], ⟨hok, _, _, ?_, rfl, fun h => absurd h hne⟩, ⟨hT.os, hT.tape, hT.output, hT.size, fun k hk hkF => hT.block k hk (fun hm => hkF ?_)⟩, fun x hx => .inl hx⟩
      · rw [hmap, partsOf_more _ (by omega)]
        exact hR'
      · simp only [foot, Value.ownBlock]
        simp at hm ⊢
        rcases hm with rfl | rfl <;> simp
    · rcases Nat.lt_or_ge 61 es.length with hc2 | hc2
      · have he : es.length = 62 := by omega
        rw [partsOf_one (by omega) (by omega)] at hR
        obtain ⟨g, cp, rfl⟩ : ∃ g cp, v = .slice (some ⟨g, 0, none⟩) 1 cp := ownsRow_form hR.row (by simp)
        obtain ⟨q0, rfl⟩ : ∃ q0, qs = [q0] := by
          have := hR.len
          match qs, this with
          | [a], _ => exact ⟨a, rfl⟩
        refine (add_push1 r g cp q0 (es.map evW) (by omega) kind n hk w hR h0 h1).mono ?_
        rintro e w' ⟨rfl, g2, cp2, q2, hR', hT, hg2, hq2⟩
        refine ⟨rfl, foot r (.slice (some ⟨g2, 0, none⟩) 2 cp2) [q0, q2], ⟨hok, _, _, ?_, rfl, fun h => absurd h hne⟩, ⟨hT.os, hT.tape, hT.output, hT.size, fun k hk hkF => hT.block k hk (fun hm => hkF ?_)⟩, ?_⟩
        · rw [hmap, partsOf_next _ (by omega)]
          exact hR'
        · simp only [foot, Value.ownBlock]
          simp at hm ⊢
          rcases hm with rfl | rfl <;> simp
        · intro x hx
          simp only [foot, Value.ownBlock] at hx ⊢
          simp at hx ⊢
          rcases hx with rfl | rfl | rfl | rfl
          · simp
          · rcases hg2 with rfl | h
            · simp
            · exact .inr h
          · simp
          · exact .inr hq2
      · rcases Nat.lt_or_ge 0 es.length with hc3 | hc3
        · rw [partsOf_one (by omega) (by omega)] at hR
          obtain ⟨g, cp, rfl⟩ : ∃ g cp, v = .slice (some ⟨g, 0, none⟩) 1 cp := ownsRow_form hR.row (by simp)
          obtain ⟨q, rfl⟩ : ∃ q, qs = [q] := by
            have := hR.len
            match qs, this with
            | [a], _ => exact ⟨a, rfl⟩
          refine (add_same0 r g q cp kind n hk [] (es.map evW) (by omega) [q] w hR rfl h0 h1).mono ?_
          rintro e w' ⟨rfl, hR', hT⟩
          refine ⟨rfl, foot r (.slice (some ⟨g, 0, none⟩) 1 cp) [q], ⟨hok, _, _, ?_, rfl, fun h => absurd h hne⟩, ⟨hT.os, hT.tape, hT.output, hT.size, fun k hk hkF => hT.block k hk (fun hm => hkF ?_)⟩, fun x hx => .inl hx⟩
          · rw [hmap, partsOf_same _ (by omega) (by omega)]
            exact hR'
          · simp only [foot, Value.ownBlock]
            simp at hm ⊢
            rcases hm with rfl | rfl <;> simp
        · have he : es = [] := List.eq_nil_of_length_eq_zero (by omega)
          subst he
          obtain rfl := hv rfl
          obtain rfl : qs = [] := List.eq_nil_of_length_eq_zero hR.len
          refine (add_push0 r kind n hk w hR h0 h1).mono ?_
          rintro e w' ⟨rfl, g2, cp2, q2, hR', hT, hg2, hq2⟩
          refine ⟨rfl, foot r (.slice (some ⟨g2, 0, none⟩) 1 cp2) [q2], ⟨hok, _, _, ?_, rfl, fun h => absurd h hne⟩, ⟨hT.os, hT.tape, hT.output, hT.size, fun k hk hkF => hT.block k hk (fun hm => hkF ?_)⟩, ?_⟩
          · rw [hmap]
            exact hR'
          · simp only [foot, Value.ownBlock]
            simp at hm ⊢
            simp [hm]
          · intro x hx
            simp only [foot, Value.ownBlock] at hx ⊢
            simp at hx ⊢
            rcases hx with rfl | rfl | rfl
            · simp
            · exact .inr hg2
            · exact .inr hq2
theorem Idx_rc (p : Option Nat) (es : List (Int × Int)) (F : List Nat) (n : Int) (h0 : 0 ≤ n) (h1 : n < 268435456) (hl : p = none ∨ es.length < 316) (w : World) (h : Rc w p es F) :
    Calls Try.prog 157 #[ptr p, .int .i64 n] w (Told (.tuple #[]) p (es ++ [(1, n)]) F w) := by
  go_enter Try.func157, Try.ntmps157
  go_wp2_with fail
  refine (add_rc p es F 1 n (by omega) h0 h1 hl w h).mono ?_
  rintro e w' ⟨rfl, h⟩
  go_wp2
  go_end0
  exact ⟨rfl, h⟩
theorem Br_rc (p : Option Nat) (es : List (Int × Int)) (F : List Nat) (n : Int) (h0 : 0 ≤ n) (h1 : n < 268435456) (hl : p = none ∨ es.length < 316) (w : World) (h : Rc w p es F) :
    Calls Try.prog 167 #[ptr p, .int .i64 n] w (Told (.tuple #[]) p (es ++ [(2, n)]) F w) := by
  go_enter Try.func167, Try.ntmps167
  go_wp2_with fail
  refine (add_rc p es F 2 n (by omega) h0 h1 hl w h).mono ?_
  rintro e w' ⟨rfl, h⟩
  go_wp2
  go_end0
  exact ⟨rfl, h⟩
theorem OpenR_rc (p : Option Nat) (es : List (Int × Int)) (F : List Nat) (hl : p = none ∨ es.length < 316) (w : World) (h : Rc w p es F) :
    Calls Try.prog 98 #[ptr p] w (Told (.tuple #[]) p (es ++ [(3, 0)]) F w) := by
  go_enter Try.func98, Try.ntmps98
  go_wp2_with fail
  refine (add_rc p es F 3 0 (by omega) (by omega) (by omega) hl w h).mono ?_
  rintro e w' ⟨rfl, h⟩
  go_wp2
  go_end0
  exact ⟨rfl, h⟩
theorem Open_rc (x : Int) (p : Option Nat) (es : List (Int × Int)) (F : List Nat) (hl : p = none ∨ es.length < 316) (w : World) (h : Rc w p es F) :
    Calls Try.prog 28 #[.agg #[.int .i64 x], ptr p] w (Told (.int .i64 x) p (es ++ [(3, 0)]) F w) := by
  go_enter Try.func28, Try.ntmps28
  go_wp2_with fail
  refine (OpenR_rc p es F hl _ (h.ext ((Ext.refl w).alloc' _))).mono ?_
  rintro e w' ⟨rfl, F', hR', hT, hF⟩
  have hb : w.heap.size ∉ F := fun hm => by have := h.lt _ hm; omega
  have hc : w'.cell? ⟨w.heap.size, 0, none⟩ = some (.int .i64 x) := (hT.cell (by simp) hb).trans (by simp)
  go_wp2
  go_ret
  exact ⟨rfl, F', hR', (Turn.of_ext ((Ext.refl w).alloc' _)).seq hT, fun y hy => (hF y hy).imp id (fun h => by simp at h; omega)⟩
theorem all_rc (r : Nat) (es : List (Int × Int)) (v : Value) (w : World) (T : TypeId) (h : w.heap[r]? = some (.cells #[v] T (0, 0))) :
    Calls Try.prog 103 #[.pointer (some ⟨r, 0, none⟩)] w fun e w' => e = .returned v ∧ w = w' := by
  have hc : w.cell? ⟨r, 0, none⟩ = some v := by rw [blk_cell h]; rfl
  go_enter Try.func103, Try.ntmps103
  go_wp2
  go_ret
  exact ⟨rfl, rfl⟩
end Go.Proofs.Ytoipadeeochbnaa
