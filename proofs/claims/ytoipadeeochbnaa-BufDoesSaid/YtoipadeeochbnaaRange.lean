/-
  'for x := range f { .. }' where f may be a method value; the body goes on at every round. At the wide fence. Plain theorems.
-/
import Derived.Test.YtoipadeeochbnaaRound
import Derived.RangeFuncNested
import Derived.RangeFuncLeaves
import Derived.RangeFuncBound
namespace Go.Proofs.Ytoipadeeochbnaa.Mix
open Go Go.RowKit
/-- What the loop's own book-keeping leaves: below B, and wherever there are cells, all lies as it lay. -/
structure Book (B : Nat) (W W' : World) : Prop where
  os : W'.os = W.os
  tape : W'.tape = W.tape
  output : W'.output = W.output
  size : W.heap.size ≤ W'.heap.size
  same : ∀ (k : Nat) (o : Obj), (k < B ∨ o.isCells = true) → W.heap[k]? = some o → W'.heap[k]? = some o
theorem Book.put {B : Nat} {W : World} {l : Nat} {o : Obj} (o' : Obj) (hB : B ≤ l) (hl : W.heap[l]? = some o) (ho : o.isCells = false) : Book B W (W.putObj l o') :=
  ⟨rfl, rfl, rfl, by simp, fun k u hk hu => (World.putObj_heap_other (fun e => by
    subst e
    rcases hk with h | h
    · omega
    · rw [hl] at hu; cases hu; rw [ho] at h; cases h)).trans hu⟩
theorem Book.of_ext {B : Nat} {W W' : World} (h : Ext W W') : Book B W W' :=
  ⟨h.os, h.tape, h.output, h.size, fun k o _ hk => (h.block k (blk_lt hk)).trans hk⟩
theorem Book.trans {B : Nat} {X Y Z : World} (h : Book B X Y) (k : Book B Y Z) : Book B X Z :=
  ⟨k.os.trans h.os, k.tape.trans h.tape, k.output.trans h.output, Nat.le_trans h.size k.size, fun i o hi ho => k.same i o hi (h.same i o hi ho)⟩
section
variable {P : Program} {α : Type}
/-- The iterator's word: told of any book-keeping, it gives xs, one by one; J0: at its start; J: between two rounds; Jy: where a round begins. -/
def Gives (P : Program) (gf : Nat) (fb lb : Array Value) (encs : α → Array Value) (B : Nat) (J0 : World → Prop) (J : List α → World → Prop) (Jy : List α → α → World → Prop) (xs : List α) : Prop :=
  ∀ (l : Nat) (K : World → Prop) (W : World), (∀ A A', K A → KeepsFrom B A A' → K A') → K W → J0 W →
    (∀ pre x W, pre ++ [x] <+: xs → Jy pre x W → K W → YieldAt Fence.wide 7 P l (encs x) W fun e W' => e = .returned (.bool true) ∧ J (pre ++ [x]) W' ∧ K W') →
    CallsIn Fence.wide 8 P gf (fb ++ #[.func (.yield l) #[] #[]] ++ lb) W fun e W' => (∃ v, e = .returned v) ∧ J xs W' ∧ K W'
theorem wp_range {g : Operand} {ps : Array Tmp} {assign body : Code} {Q : Exit → Act → World → Prop} {a : Act} {w : World} {gf : Nat} {fb lb : Array Value}
    (hg : a.eval g = .func (.func gf) fb lb) (eg : ∀ args w, (callFunc gf args).run P w = .ok (.enter gf args) w)
    {encs : α → Array Value} (hps : ∀ x, (encs x).size = ps.size) {J0 : World → Prop} {J : List α → World → Prop} {Jy : List α → α → World → Prop} {xs : List α}
    (hgive : Gives P gf fb lb encs w.heap.size J0 J Jy xs) (Ja : List α → α → Act → World → Prop)
    (hJ0 : ∀ W W', J0 W → Book w.heap.size W W' → J0 W') (hJ : ∀ pre W W', J pre W → Book w.heap.size W W' → J pre W') (hJa : ∀ pre x a W W', Ja pre x a W → Book w.heap.size W W' → Ja pre x a W') (h0 : J0 w)
    (hassign : ∀ (l : Nat) (pre : List α) (x : α) (W : World) (K : Act → World → Prop), pre ++ [x] <+: xs → Jy pre x W → (∀ a' W', KeepsFrom w.heap.size W W' → Ja pre x a' W' → K a' W') →
      assign.wpIn (Fence.wide.inRound l) 7 P (Exit.then K (fun _ _ _ => False)) { tmps := (ps.zip (encs x)).foldl (fun t (p, v) => t.setIfInBounds p v) a.tmps, defers := [] } W)
    (hbody : ∀ (l : Nat) (pre : List α) (x : α) (a' : Act) (W : World), pre ++ [x] <+: xs → Ja pre x a' W →
      body.wpIn (Fence.wide.inRound l) 7 P (Exit.then (fun _ W' => KeepsFrom w.heap.size W W' ∧ J (pre ++ [x]) W') (fun _ _ _ => False)) a' W)
    (hdone : ∀ (D : Nat) (W : World), w.heap.size ≤ D → J xs W → W.heap[D]? = some (.deferred (some [])) → Q .normal { a with defers := { target := .collected D, args := #[] } :: a.defers } W) :
    (Code.rangeFunc g ps assign body).wpIn Fence.wide 9 P Q a w := by
  refine wpIn_rangeFunc fun fn _ => ?_
  obtain ⟨rc, hrc⟩ : ∃ rc : LoopState → Option Code → Loop, rc = fun st pe => { state := st, pending := pe, fn, tmps := a.tmps, params := ps, assign, body, defers := w.heap.size } := ⟨_, rfl⟩
  obtain ⟨W1, hW1⟩ : ∃ W1, (w.alloc (.deferred (some []))).alloc (.loop (rc .ready none)) = W1 := ⟨_, rfl⟩
  obtain ⟨l, hl⟩ : ∃ l, l = w.heap.size + 1 := ⟨_, rfl⟩
  have hL1 : W1.heap[l]? = some (.loop (rc .ready none)) := by
    rw [← hW1, hl]
    exact heap_new _ _ _ (by simp)
  have hK1 : W1.heap[w.heap.size]? = some (.deferred (some [])) := by
    rw [← hW1]
    exact (Below.heap_alloc _ _ _ (by simp)).trans (World.alloc_heap_new w _)
  have hE1 : Ext w W1 := by
    rw [← hW1]
    exact ((Ext.refl w).alloc' _).alloc' _
  have hbk : ∀ {W : World} {r : Loop}, W.heap[l]? = some (.loop r) → ∀ r', Book w.heap.size W (W.putObj l (.loop r')) := fun h r' => Book.put _ (by omega) h rfl
  refine ⟨w.heap.size + 1, [{ target := .collected w.heap.size, args := #[] }], W1, { target := .fn (.func gf) lb, args := fb ++ #[.func (.yield l) #[] #[]] }, W1, gf, fb ++ #[.func (.yield l) #[] #[]] ++ lb, W1, ?_, ?_, fun _ _ => trivial, ?_, fun h => by simp [Fence.wide] at h, ?_⟩
  · rw [← hW1, hrc]
    exact run_enterLoop_outer _ _ _ _ _
  · simp only [resolve, hg]
    simp [go_sem, hl]
  · simp [invoke, go_sem, eg]
  refine (hgive l (fun W => W.heap[l]? = some (.loop (rc .ready none)) ∧ W.heap[w.heap.size]? = some (.deferred (some []))) W1
    (fun A A' h k => ⟨k.same _ _ (by omega) h.1 rfl, k.same _ _ (Nat.le_refl _) h.2 rfl⟩) ⟨hL1, hK1⟩ (hJ0 _ _ h0 (Book.of_ext hE1)) ?_).mono ?_
  · rintro pre x W hpx hjy ⟨hr, hd⟩
    have hy := run_yield (P := P) (args := encs x) hr (by rw [hrc]; exact hps x)
    rw [hrc] at hy
    refine ⟨fn, _, assign, body, hy, roundIn_of_wpIn trivial (hassign l pre x W _ hpx hjy ?_)⟩
    intro a' W' hk hja
    have hr' := hk.same l _ (by omega) hr rfl
    have hd' := hk.same w.heap.size _ (Nat.le_refl _) hd rfl
    refine ⟨_, run_beginRound hr' (by rw [hrc]), ?_⟩
    have hr2 : (W'.putObj l (.loop { rc .ready none with state := .busy })).heap[l]? = some (.loop { rc .ready none with state := .busy }) := World.putObj_heap_same (blk_lt hr')
    have hd2 : (W'.putObj l (.loop { rc .ready none with state := .busy })).heap[w.heap.size]? = some (.deferred (some [])) := (World.putObj_heap_other (by omega)).trans hd'
    refine wpIn_mono (hbody l pre x a' _ hpx (hJa _ _ _ _ _ hja (hbk hr' _))) ?_
    rintro e a3 W3 hp
    cases e with
    | normal =>
      obtain ⟨hk3, hj3⟩ := hp
      have hr3 := hk3.same l _ (by omega) hr2 rfl
      have hd3 := hk3.same w.heap.size _ (Nat.le_refl _) hd2 rfl
      have hend := run_endRound (P := P) none hr3
      rw [hrc] at hend
      refine ⟨_, _, hend, rfl, hJ _ _ _ hj3 (hbk hr3 _), ?_, (World.putObj_heap_other (by omega)).trans hd3⟩
      rw [World.putObj_heap_same (blk_lt hr3), hrc]
      rfl
    | _ => exact hp.elim
  · rintro e W2 ⟨⟨v, rfl⟩, hj, hr, hd⟩
    have hend : (Instr.endLoop l).run P W2 = .ok none (W2.putObj l (.loop { rc .ready none with state := .exhausted })) := by
      subst hrc
      exact run_endLoop (P := P) hr (by simp)
    subst hl
    refine ⟨none, _, hend, ?_⟩
    exact hdone w.heap.size _ (Nat.le_refl _) (hJ _ _ _ hj (hbk hr _)) ((World.putObj_heap_other (by omega)).trans hd)
end
end Go.Proofs.Ytoipadeeochbnaa.Mix
