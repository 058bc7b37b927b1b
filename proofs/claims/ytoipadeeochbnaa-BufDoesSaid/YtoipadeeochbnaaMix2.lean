import Derived.Test.YtoipadeeochbnaaMix
namespace Go.Proofs.Ytoipadeeochbnaa.Mix
open Go.RowKit
/-! The same, at a class of worlds of one's own: what the calm operations read lies as it lay; whatever else may turn. -/
structure Yw (S : World → Prop) where
  w : World
  h : S w
section
variable {P : Program}
theorem wp_region_mixY {id : Nat} {Q : Exit → Act → World → Prop} {a : Act} {w : World} {l : List Oper} (S : World → Prop) (order : Ord) (hm : P.follows .mixedOrders = true)
    (hB : (Region.noSelect l.toArray && order.size == l.length && mixB .any l.toArray order.calms order (Array.replicate l.length false)) = true) (hSE : ∀ a b, S a → Ext a b → S b) (hS : S w.drew)
    (h : wpMix P l.toArray order.calms (fun w' => ∃ y : Yw S, w' = y.w) Q order a w.drew) : (Code.region id l.toArray true).wp P Q a w :=
  wp_region_mix order (fun w' => ∃ y : Yw S, w' = y.w) hm hB (fun a b ⟨y, e⟩ k => ⟨⟨b, hSE a b (e ▸ y.h) k⟩, rfl⟩) ⟨⟨_, hS⟩, rfl⟩ h
end
section
variable {P : Program} {ops : Array Oper} {cs : List Nat} {S : World → Prop} {Q : Exit → Act → World → Prop}
/-- An operation that is passed over, the state named. -/
theorem mix_passK {i : Nat} {rest : Ord} {a : Act} {w : World} {o : Oper} (ho : ops[i]? = some o) (hw : Region.wanted o (yielded ops a.tmps) = false)
    (h : ∀ K : Act → Prop, (∀ a, wpMix P ops cs S Q rest a w → K a) → K (a.put o.dst undef)) : wpMix P ops cs S Q (.c i rest) a w :=
  mix_pass o ho hw (h _ fun _ h => h)
/-- A nil check that a pointer passes, the state named. -/
theorem mix_nilK {i : Nat} {rest : Ord} {a : Act} {w : World} {o : Oper} {x : Operand} {q : Addr} (ho : ops[i]? = some o) (hw : Region.wanted o (yielded ops a.tmps) = true)
    (hx : o.op = .nilCheck x) (hv : a.eval x = .pointer (some q)) (h : ∀ K : Act → Prop, (∀ a, wpMix P ops cs S Q rest a w → K a) → K (a.put o.dst (.pointer (some q)))) : wpMix P ops cs S Q (.c i rest) a w :=
  mix_nilCheck o x q ho hw hx hv (h _ fun _ h => h)
end
/-- The worlds in which these blocks lie as they lay in W. -/
def Keeps (W : World) (L : List Nat) (w' : World) : Prop := ∀ b ∈ L, w'.heap[b]? = W.heap[b]?
instance (W : World) (L : List Nat) : Inhabited (Yw (Keeps W L)) := ⟨⟨W, fun _ _ => rfl⟩⟩
theorem Keeps.ext {W : World} {L : List Nat} (hL : ∀ b ∈ L, b < W.heap.size) (a b : World) (h : Keeps W L a) (k : Ext a b) : Keeps W L b := fun x hx => by
  have h1 := h x hx
  have h2 : x < a.heap.size := by
    rcases Nat.lt_or_ge x a.heap.size with h' | h'
    · exact h'
    · rw [Array.getElem?_eq_none h', Array.getElem?_eq_getElem (hL x hx)] at h1
      cases h1
  exact (k.block x h2).trans h1
theorem wp_region_mixK {P : Program} {id : Nat} {Q : Exit → Act → World → Prop} {a : Act} {w : World} {l : List Oper} (L : List Nat) (order : Ord) (hm : P.follows .mixedOrders = true)
    (hB : (Region.noSelect l.toArray && order.size == l.length && mixB .any l.toArray order.calms order (Array.replicate l.length false)) = true) (hL : ∀ b ∈ L, b < w.heap.size)
    (h : wpMix P l.toArray order.calms (fun w' => ∃ y : Yw (Keeps w L), w' = y.w) Q order a w.drew) : (Code.region id l.toArray true).wp P Q a w :=
  wp_region_mixY (Keeps w L) order hm hB (Keeps.ext hL) (fun _ _ => rfl) h
theorem Keeps.cell {W : World} {L : List Nat} {b : Nat} {o : Nat} {v : Value} (hb : b ∈ L) (h : W.cell? ⟨b, o, none⟩ = some v) (y : Yw (Keeps W L)) : y.w.cell? ⟨b, o, none⟩ = some v :=
  (World.cell?_of_block (y.h b hb)).trans h
theorem yes {S : World → Prop} {w : World} (h : S w) : ∃ y : Yw S, w = y.w := ⟨⟨w, h⟩, rfl⟩
end Go.Proofs.Ytoipadeeochbnaa.Mix
