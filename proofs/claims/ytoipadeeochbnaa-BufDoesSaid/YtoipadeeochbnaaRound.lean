/-
  A region that draws its order, within a round of a range over a function: the walk in one chosen order, at the wide fence. Plain theorems.
-/
import Derived.Test.YtoipadeeochbnaaMix2
import Derived.OrdersIn
import Derived.TacticsIn
import Derived.RangeFuncCalls
namespace Go.Proofs.Ytoipadeeochbnaa.Mix
open Go Go.RowKit
section
variable {P : Program} {ops : Array Oper} {Q : Exit → Act → World → Prop} {md : Region.Mode} {l₀ m : Nat}
/-- What holds everywhere holds in a round. -/
theorem oper_wpIn {o : Oper} {a : Act} {w : World} {K : Act → World → Prop} (hnd : ∀ c, o.op ≠ .defer c) (h : o.wp P a w K Q) : o.wpIn (Fence.wide.inRound l₀) m P a w K Q := by
  unfold Oper.wpIn
  unfold Oper.wp at h
  refine ⟨fun _ _ => trivial, ?_⟩
  rw [Fence.inRound_round, Oper.semAt_some _ _ _ hnd]
  generalize (execOp a.eval o).run P w = r at *
  cases r with
  | ok x w' =>
    cases x <;> simp only [Oper.upon] at h <;> simp only [Oper.uponIn]
    case value => exact h
    case skip => exact h
    case defer => exact h
    case enter f args => exact ⟨fun h0 => by simp [Fence.wide] at h0, callsIn_wide.2 h⟩
    case row row args => exact ⟨fun h0 => by simp [Fence.wide] at h0, fun c cs _ => let ⟨v, w2, r, s⟩ := h c cs; ⟨v, w2, r, stepsIn_wide.2 s⟩⟩
  | halt x w' => cases x <;> simp only [Oper.upon] at h <;> simp only [Oper.uponIn] <;> exact h
def noDefer (ops : Array Oper) : Bool := ops.all fun o => match o.op with | .defer _ => false | _ => true
theorem noDefer_spec (h : noDefer ops = true) {i : Nat} {o : Oper} (hi : ops[i]? = some o) : ∀ c, o.op ≠ .defer c := by
  intro c hc
  unfold noDefer at h
  rw [Array.all_eq_true'] at h
  have := h o (Array.mem_of_getElem? hi)
  rw [hc] at this
  cases this
theorem wpOp_in (hnd : noDefer ops = true) {i : Nat} {K : Act → World → Prop} {a : Act} {w : World} (h : wpOp P ops (N Q) i K a w) : wpOpIn (Fence.wide.inRound l₀) m P ops (N Q) i K a w := by
  unfold wpOp at h
  unfold wpOpIn
  split
  · rename_i h0
    simpa [h0] using h
  · rename_i o ho
    simp only [ho] at h
    split
    · rename_i hw
      simp only [hw, if_true] at h
      rcases h with h | ⟨_, hl⟩
      · exact oper_wpIn (noDefer_spec hnd ho) h
      · exact absurd hl (by rintro ⟨_, _, h⟩; exact h)
    · rename_i hw
      simp only [hw] at h
      exact ⟨fun _ _ => trivial, h⟩
theorem wpAny_in (hnd : noDefer ops = true) : ∀ (fuel : Nat) (listed : Array Bool) (a : Act) (w : World), wpAny P md ops (N Q) fuel listed a w → wpAnyIn (Fence.wide.inRound l₀) m P md ops (N Q) fuel listed a w
  | 0, _, _, _, h => h
  | fuel + 1, _, _, _, h => ⟨h.1, fun i hi => wpOpIn_mono (fun a w h => wpAny_in hnd fuel _ a w h) (wpOp_in hnd (h.2 i hi))⟩
/-- **ONE WALK, in the order that is given, serves every order: in a round.** -/
theorem wpIn_region_mix {id : Nat} {a : Act} {w : World} {l : List Oper} (order : Ord) (S : World → Prop) (hm : P.follows .mixedOrders = true)
    (hB : (noDefer l.toArray && (Region.noSelect l.toArray && order.size == l.length && mixB .any l.toArray order.calms order (Array.replicate l.length false))) = true)
    (hSE : ∀ w w', S w → Ext w w' → S w') (hS : S w.drew) (h : wpMix P l.toArray order.calms S Q order a w.drew) : (Code.region id l.toArray true).wpIn (Fence.wide.inRound l₀) m P Q a w := by
  simp only [Bool.and_eq_true, beq_iff_eq] at hB
  obtain ⟨hd, ⟨hs, hl⟩, hB⟩ := hB
  refine wpIn_mono (Q := N Q) (wpIn_region_any hm (wpAny_in hd _ _ _ _ (wpAny_of_E (cs := order.calms) (S := S) _ _ _ _ ?_))) (fun e a w h => by cases e <;> first | exact h | exact False.elim h)
  exact wpAnyE_of_mix (P := P) (Q := Q) hSE hs order _ _ a w.drew (fun _ h => h) (Closed.none _ (by simp)) (by simp [hl]) (fun _ => hS) (by simpa using hB) h
theorem wpIn_region_mixX {id : Nat} {a : Act} {w : World} {l : List Oper} (n : Nat) (order : Ord) (hm : P.follows .mixedOrders = true)
    (hB : (noDefer l.toArray && (Region.noSelect l.toArray && order.size == l.length && mixB .any l.toArray order.calms order (Array.replicate l.length false))) = true) (hn : n ≤ w.heap.size)
    (h : (∀ x b o, b < n → (ap w x).cell? ⟨b, o, none⟩ = w.cell? ⟨b, o, none⟩) → (∀ x b o, b < w.heap.size → (ap w x).cell? ⟨b, o, none⟩ = w.cell? ⟨b, o, none⟩) →
      wpMix P l.toArray order.calms (fun w' => ∃ x : X, w' = ap w x) Q order a w.drew) : (Code.region id l.toArray true).wpIn (Fence.wide.inRound l₀) m P Q a w :=
  wpIn_region_mix order (fun w' => ∃ x : X, w' = ap w x) hm hB SX_ext (ext_ap (Ext.drew w))
    (h (fun x b o hb => cell?_ap w x b o (Nat.lt_of_lt_of_le hb hn)) (fun x b o hb => cell?_ap w x b o hb))
theorem wpIn_region_mixY {id : Nat} {a : Act} {w : World} {l : List Oper} (S : World → Prop) (order : Ord) (hm : P.follows .mixedOrders = true)
    (hB : (noDefer l.toArray && (Region.noSelect l.toArray && order.size == l.length && mixB .any l.toArray order.calms order (Array.replicate l.length false))) = true) (hSE : ∀ a b, S a → Ext a b → S b) (hS : S w.drew)
    (h : wpMix P l.toArray order.calms (fun w' => ∃ y : Yw S, w' = y.w) Q order a w.drew) : (Code.region id l.toArray true).wpIn (Fence.wide.inRound l₀) m P Q a w :=
  wpIn_region_mix order (fun w' => ∃ y : Yw S, w' = y.w) hm hB (fun a b ⟨y, e⟩ k => ⟨⟨b, hSE a b (e ▸ y.h) k⟩, rfl⟩) ⟨⟨_, hS⟩, rfl⟩ h
theorem wpIn_region_mixK {id : Nat} {a : Act} {w : World} {l : List Oper} (L : List Nat) (order : Ord) (hm : P.follows .mixedOrders = true)
    (hB : (noDefer l.toArray && (Region.noSelect l.toArray && order.size == l.length && mixB .any l.toArray order.calms order (Array.replicate l.length false))) = true) (hL : ∀ b ∈ L, b < w.heap.size)
    (h : wpMix P l.toArray order.calms (fun w' => ∃ y : Yw (Keeps w L), w' = y.w) Q order a w.drew) : (Code.region id l.toArray true).wpIn (Fence.wide.inRound l₀) m P Q a w :=
  wpIn_region_mixY (Keeps w L) order hm hB (Keeps.ext hL) (fun _ _ => rfl) h
end
end Go.Proofs.Ytoipadeeochbnaa.Mix
