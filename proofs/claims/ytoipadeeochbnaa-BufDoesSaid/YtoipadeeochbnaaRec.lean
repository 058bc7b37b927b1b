import Derived.Test.YtoipadeeochbnaaSec
import Derived.Test.YtoipadeeochbnaaMix2
import Derived.Maps.AppendAt
namespace Go.Proofs.Ytoipadeeochbnaa
open Go.RowKit Mix
set_option linter.unusedVariables false
attribute [local go_sem] Mix.calm Oper.quietUpon

/-! WHAT A RECORDER HOLDS -/
/-- How many words the j-th part has room for. -/
def capN (j : Nat) : Nat := min 65536 (64 * 2 ^ (min (2 * j) 10))
/-- An event's words: (kind, number). -/
def evWords (e : Int × Int) : List Int :=
  if 0 ≤ e.2 ∧ e.2 < 268435456 then [e.2 * 4 + e.1] else [2147483648 + e.1, e.2 % 18446744073709551616 / 4294967296, e.2 % 4294967296]
/-- Is there room behind the last part for three more? -/
def roomy (ps : List (List Int)) : Bool := match ps.getLast? with | none => false | some p => decide (p.length + 3 ≤ capN (ps.length - 1))
def lay (ps : List (List Int)) (ws : List Int) : List (List Int) := if roomy ps then ps.dropLast ++ [ps.getLast?.getD [] ++ ws] else ps ++ [ws]
def layout (es : List (Int × Int)) : List (List Int) := es.foldl (fun ps e => lay ps (evWords e)) []
theorem layout_nil : layout [] = [] := rfl
theorem layout_snoc (es : List (Int × Int)) (e : Int × Int) : layout (es ++ [e]) = lay (layout es) (evWords e) := by simp [layout]
/-- The parts' headers. -/
def heads (qs : List Nat) (ps : List (List Int)) : List Value := (List.range ps.length).map fun j => .slice (some ⟨qs.getD j 0, 0, none⟩) (ps.getD j []).length (capN j)
theorem heads_len (qs : List Nat) (ps : List (List Int)) : (heads qs ps).length = ps.length := by simp [heads]
theorem heads_get {qs : List Nat} {ps : List (List Int)} {j : Nat} {p : List Int} {q : Nat} (hp : ps[j]? = some p) (hq : qs[j]? = some q) : (heads qs ps)[j]? = some (.slice (some ⟨q, 0, none⟩) p.length (capN j)) := by
  obtain ⟨hj, rfl⟩ := List.getElem?_eq_some_iff.1 hp
  simp [heads, hj, List.getD_eq_getElem?_getD, hq]
/-- A recorder at block r: its parts; F: the blocks that are its own. -/
structure RecAt (w : World) (r : Nat) (ps : List (List Int)) (v : Value) (qs : List Nat) : Prop where
  cell : w.heap[r]? = some (.cells #[v] 140 (0, 0))
  row : w.ownsRow 0 147 1 v ps.length (heads qs ps)
  len : qs.length = ps.length
  part : ∀ (j : Nat) (p : List Int) (q : Nat), ps[j]? = some p → qs[j]? = some q → w.ownsRow 0 150 1 (.slice (some ⟨q, 0, none⟩) p.length (capN j)) p.length (p.map (Value.int .u32))
  apart : (r :: (v.ownBlock.toList ++ qs)).Nodup
/-- The blocks that are a recorder's own. -/
def foot (r : Nat) (v : Value) (qs : List Nat) : List Nat := r :: (v.ownBlock.toList ++ qs)
/-- A recorder, by its events. -/
def Rec (w : World) (r : Nat) (es : List (Int × Int)) (F : List Nat) : Prop := ∃ v qs, RecAt w r (layout es) v qs ∧ F = foot r v qs
/-- What turns: nothing but these blocks, and new ones. -/
structure Turn (F : List Nat) (w w' : World) : Prop where
  os : w'.os = w.os
  tape : w'.tape = w.tape
  output : w'.output = w.output
  size : w.heap.size ≤ w'.heap.size
  block : ∀ k, k < w.heap.size → k ∉ F → w'.heap[k]? = w.heap[k]?
theorem Turn.refl (F : List Nat) (w : World) : Turn F w w := ⟨rfl, rfl, rfl, Nat.le_refl _, fun _ _ _ => rfl⟩
theorem Turn.of_ext {F : List Nat} {w w' : World} (h : Ext w w') : Turn F w w' := ⟨h.os, h.tape, h.output, h.size, fun k hk _ => h.block k hk⟩
/-- The later blocks may be the first ones' or new. -/
theorem Turn.trans {F G : List Nat} {a b c : World} (h : Turn F a b) (k : Turn G b c) (hG : ∀ x ∈ G, x ∈ F ∨ a.heap.size ≤ x) : Turn F a c :=
  ⟨k.os.trans h.os, k.tape.trans h.tape, k.output.trans h.output, Nat.le_trans h.size k.size, fun x hx hF => by
    rw [k.block x (Nat.lt_of_lt_of_le hx h.size) (fun hg => by rcases hG x hg with h1 | h1; exact hF h1; omega)]
    exact h.block x hx hF⟩
theorem Turn.below {F : List Nat} {B : Nat} {a b : World} (h : Turn F a b) (hF : ∀ x ∈ F, B ≤ x) (hB : B ≤ a.heap.size) : Below B a b :=
  ⟨h.os, h.tape, h.output, h.size, fun k hk => h.block k (by omega) (fun hm => by have := hF k hm; omega)⟩
theorem ownsRow_turn {base : Nat} {e : TypeId} {k : Nat} {v : Value} {n : Nat} {xs : List Value} {F : List Nat} {w w' : World} (h : w.ownsRow base e k v n xs) (hb : Turn F w w') (hF : ∀ b, v.ownBlock = some b → b ∉ F) : w'.ownsRow base e k v n xs := by
  obtain ⟨h1, h2⟩ := h
  refine ⟨h1, ?_⟩
  rcases h2 with h2 | ⟨g, cap, cur, rfl, hg, hc, r⟩
  · exact .inl h2
  · refine .inr ⟨g, cap, cur, rfl, hg, ?_, r⟩
    have hl : g < w.heap.size := (Array.getElem?_eq_some_iff.1 hc).1
    rw [hb.block g hl (hF g rfl)]
    exact hc
/-- A recorder lies as it lay, where none of its blocks turns. -/
theorem RecAt.turn {w w' : World} {r : Nat} {ps : List (List Int)} {v : Value} {qs : List Nat} {F : List Nat} (h : RecAt w r ps v qs) (hb : Turn F w w') (hF : ∀ x ∈ foot r v qs, x ∉ F) : RecAt w' r ps v qs where
  cell := by
    rw [hb.block r (Array.getElem?_eq_some_iff.1 h.cell).1 (hF r (by simp [foot]))]
    exact h.cell
  row := ownsRow_turn h.row hb (fun b e => hF b (by simp [foot, e]))
  len := h.len
  part j p q hp hq := ownsRow_turn (h.part j p q hp hq) hb (fun b e => hF b (by
    simp only [Value.ownBlock, Option.some.injEq] at e
    subst e
    simp only [foot, List.mem_cons, List.mem_append]
    exact .inr (.inr (List.mem_of_getElem? hq))))
  apart := h.apart
theorem Rec.turn {w w' : World} {r : Nat} {es : List (Int × Int)} {F G : List Nat} (h : Rec w r es F) (hb : Turn G w w') (hF : ∀ x ∈ F, x ∉ G) : Rec w' r es F := by
  obtain ⟨v, qs, h1, rfl⟩ := h
  exact ⟨v, qs, h1.turn hb hF, rfl⟩
theorem RecAt.lt {w : World} {r : Nat} {ps : List (List Int)} {v : Value} {qs : List Nat} (h : RecAt w r ps v qs) : ∀ x ∈ foot r v qs, x < w.heap.size := by
  intro x hx
  simp only [foot, List.mem_cons, List.mem_append] at hx
  rcases hx with rfl | hx | hx
  · exact (Array.getElem?_eq_some_iff.1 h.cell).1
  · exact (h.row.lt x (by simpa using hx)).2
  · obtain ⟨j, hj⟩ := List.getElem?_of_mem hx
    have hl := (List.getElem?_eq_some_iff.1 hj).1
    rw [h.len] at hl
    exact ((h.part j _ x (List.getElem?_eq_getElem hl) hj).lt x rfl).2

theorem New_any (w : World) : Calls Try.prog 26 #[] w fun e w' => e = .returned (.pointer (some ⟨w.heap.size, 0, none⟩)) ∧ Rec w' w.heap.size [] [w.heap.size] ∧ Ext w w' := by
  go_enter Try.func26, Try.ntmps26
  go_wp2
  go_ret
  refine ⟨rfl, ⟨.slice none 0 0, [], ⟨heap_new _ _ _ (by simp), World.ownsRow_nil _ _ _ _, rfl, ?_, by simp [Value.ownBlock]⟩, rfl⟩, by (repeat' (first | exact Ext.refl _ | assumption | refine Ext.alloc' ?_ _ | (refine Ext.set' ?_ (by first | omega | (simp; done) | (simp; omega)) _) | refine Ext.drew' ?_ | refine Ext.drewN' ?_ _ | refine Ext.trans ?_ (by assumption)))⟩
  intro j p q hp
  simp [layout] at hp
end Go.Proofs.Ytoipadeeochbnaa
