/-
  A region that draws its order, walked in ONE order of the prover's choice. An operation is CALM if in every world that meets S it yields one value and leaves a world that only has new blocks; all others are carried out as they stand, one at a time, where nothing else may come up. By an AI agent; plain theorems.
-/
import Derived.OrdersHeld
import Derived.Deep.Quiet
import Derived.Below
import Derived.WalkKit
import Derived.BigQuiet
namespace Go.Proofs.Ytoipadeeochbnaa.Mix
open Go Go.RowKit

/-- w' is w with new blocks (and draws): every block of w is as it was. -/
def Ext (w w' : World) : Prop := Below w.heap.size w w'
theorem Ext.refl (w : World) : Ext w w := Below.refl _ _
theorem Ext.trans {a b c : World} (h : Ext a b) (k : Ext b c) : Ext a c := Below.trans h (Below.mono k h.size)
theorem Ext.drew (w : World) : Ext w w.drew := (Below.refl _ _).drew
theorem Ext.drewN (w : World) (n : Nat) : Ext w (w.drewN n) := ⟨rfl, rfl, rfl, Nat.le_refl _, fun _ _ => rfl⟩
theorem Ext.alloc' {w w' : World} (h : Ext w w') (o : Obj) : Ext w (w'.alloc o) := Below.alloc h h.size o
theorem Ext.set' {w w' : World} (h : Ext w w') {p : Addr} (hp : w.heap.size ≤ p.block) (u : Value) : Ext w (w'.setCell p u) := Below.setCell h hp u
theorem Ext.drew' {w w' : World} (h : Ext w w') : Ext w w'.drew := Below.drew h
theorem Ext.drewN' {w w' : World} (h : Ext w w') (n : Nat) : Ext w (w'.drewN n) := h.trans (Ext.drewN w' n)
theorem Ext.cell {w w' : World} (h : Ext w w') {a : Addr} {v : Value} (hc : w.cell? a = some v) : w'.cell? a = some v := by
  rw [Below.cell h (World.block_lt_of_cell? w a hc)]; exact hc
theorem Ext.frozen {w w' : World} (h : Ext w w') {a : Addr} {v : Value} (hc : w.cell? a = some v) (hf : w.frozen? a = false) : w'.frozen? a = false := by
  rw [Below.frozen h (World.block_lt_of_cell? w a hc)]; exact hf
theorem cell_set_same (w : World) (a : Addr) (v : Value) (h : (w.cell? a).isSome = true) : (w.setCell a v).cell? a = some v := World.cell?_setCell_same' w a v h
/-- The two rules that the walk wants behind a call: old cells, old marks. -/
theorem Ext.rules {W w1 : World} (h : Ext W w1) : (∀ b o, b < W.heap.size → w1.cell? ⟨b, o, none⟩ = W.cell? ⟨b, o, none⟩) ∧ (∀ b o, b < W.heap.size → w1.frozen? ⟨b, o, none⟩ = W.frozen? ⟨b, o, none⟩) :=
  ⟨fun b o hb => Below.cell (p := ⟨b, o, none⟩) h hb, fun b o hb => Below.frozen (p := ⟨b, o, none⟩) h hb⟩
/-- A contract that leaves the world alone, as one that leaves new blocks. -/
theorem se {P : Program} {f : FuncId} {args : Array Value} {w : World} {v : Value} (h : Calls P f args w fun e w' => e = .returned v ∧ w = w') : Calls P f args w fun e w' => e = .returned v ∧ Ext w w' :=
  h.mono fun _ _ ⟨he, hw⟩ => ⟨he, hw ▸ Ext.refl _⟩
/-- The same, of the blocks below a number that is written out. -/
theorem Ext.cells {W w1 : World} (h : Ext W w1) (n : Nat) (hn : n ≤ W.heap.size) : ∀ b o, b < n → w1.cell? ⟨b, o, none⟩ = W.cell? ⟨b, o, none⟩ :=
  fun b o hb => Below.cell (p := ⟨b, o, none⟩) h (Nat.lt_of_lt_of_le hb hn)
theorem Ext.marks {W w1 : World} (h : Ext W w1) (n : Nat) (hn : n ≤ W.heap.size) : ∀ b o, b < n → w1.frozen? ⟨b, o, none⟩ = W.frozen? ⟨b, o, none⟩ :=
  fun b o hb => Below.frozen (p := ⟨b, o, none⟩) h (Nat.lt_of_lt_of_le hb hn)
theorem Ext.sizes {W w1 : World} (h : Ext W w1) (n : Nat) (hn : n ≤ W.heap.size) : n ≤ w1.heap.size := Nat.le_trans hn h.size
theorem heap_new (w : World) (o : Obj) (n : Nat) (h : n = w.heap.size) : (w.alloc o).heap[n]? = some o := by
  subst h
  show (w.heap.push o)[w.heap.size]? = _
  simp
theorem blk_lt {w : World} {b : Nat} {o : Obj} (h : w.heap[b]? = some o) : b < w.heap.size := by
  rcases Nat.lt_or_ge b w.heap.size with h' | h'
  · exact h'
  · rw [Array.getElem?_eq_none h'] at h; cases h
theorem blk_cell {w : World} {b : Nat} {C : Array Value} {T : TypeId} {fr : Nat × Nat} (h : w.heap[b]? = some (.cells C T fr)) (o : Nat) : w.cell? ⟨b, o, none⟩ = C[o]? := by
  simp [World.cell?, h]
theorem blk_free {w : World} {b : Nat} {C : Array Value} {T : TypeId} (h : w.heap[b]? = some (.cells C T (0, 0))) (o : Nat) : w.frozen? ⟨b, o, none⟩ = false := by
  simp [World.frozen?, h]
theorem Ext.blk {w w' : World} (h : Ext w w') {b : Nat} {o : Obj} (hb : w.heap[b]? = some o) : w'.heap[b]? = some o := by
  rw [Below.block h b (blk_lt hb)]; exact hb
theorem Ext.below {w w' : World} (h : Ext w w') : Below w.heap.size w w' := h

section
variable {P : Program} {ops : Array Oper} {cs : List Nat} {Q : Exit → Act → World → Prop} {md : Region.Mode} {S : World → Prop}

def YieldsE (P : Program) (ops : Array Oper) (S : World → Prop) (o : Oper) (v : Value) (a : Act) : Prop :=
  (Region.wanted o (yielded ops a.tmps) = true ∧ ∀ w, S w → o.quietAt P a (Ext w) w v) ∨
  (Region.wanted o (yielded ops a.tmps) = false ∧ v = undef)

theorem YieldsE.of_same {o : Oper} {v : Value} {a a' : Act} (hy : YieldsE P ops S o v a) (he : execOp a'.eval o = execOp a.eval o)
    (hw : Region.wanted o (yielded ops a'.tmps) = Region.wanted o (yielded ops a.tmps)) : YieldsE P ops S o v a' := by
  unfold YieldsE Oper.quietAt at *
  rw [he, hw]
  exact hy

theorem YieldsE.wpOp {i : Nat} {o : Oper} {v : Value} {a : Act} (hi : ops[i]? = some o) (hy : YieldsE P ops S o v a)
    {K : Act → World → Prop} {w : World} (hS : S w) (h : ∀ w2, Ext w w2 → K (a.put o.dst v) w2) : wpOp P ops Q i K a w := by
  unfold Go.wpOp
  simp only [hi]
  rcases hy with ⟨hw, hv⟩ | ⟨hw, rfl⟩
  · simp only [hw, if_true]
    refine .inl ?_
    have h3 := hv w hS
    unfold Oper.quietAt at h3
    unfold Oper.wp
    generalize (execOp a.eval o).run P w = r at *
    cases r with
    | ok n w' =>
      cases n <;> simp only [Oper.quietUpon] at h3 <;> simp only [Oper.upon]
      case value u =>
        obtain ⟨e1, e2⟩ := h3
        rw [e1, e2]
        exact h _ (Ext.refl _)
      case skip =>
        obtain ⟨e1, e2⟩ := h3
        rw [e1, ← e2]
        exact h _ (Ext.refl _)
      case enter f args =>
        obtain ⟨e1, hc⟩ := h3
        rw [e1]
        exact hc.mono fun e w'' ⟨he, hw''⟩ => by subst he; exact h _ hw''
    | halt x w' => simp only [Oper.quietUpon] at h3
  · simp only [hw, Bool.false_eq_true, if_false]; exact h _ (Ext.refl _)

/-- 'Q' at the ordinary end alone: no panic, nothing outgrown. -/
def N (Q : Exit → Act → World → Prop) : Exit → Act → World → Prop
  | .normal, a, w => Q .normal a w
  | _, _, _ => False

theorem wpOp_putE {j : Nat} {oi oj : Oper} {v : Value} (hj : ops[j]? = some oj) (hap : oi.apart ops oj = true)
    (hsi : ∀ cs b, oi.op ≠ .select cs b) (hsj : ∀ cs b, oj.op ≠ .select cs b) {K : Act → World → Prop} {a : Act} {w : World}
    (hy : YieldsE P ops S oi v a) (h : wpOp P ops (N Q) j K (a.put oi.dst v) w) :
    wpOp P ops (N Q) j (fun a' w' => YieldsE P ops S oi v a' ∧ K (a'.put oi.dst v) w') a w := by
  obtain ⟨h1, h2, h3⟩ := Oper.apart_spec hap
  have keep : ∀ (a : Act), YieldsE P ops S oi v a → ∀ u, YieldsE P ops S oi v (a.put oj.dst u) := fun a hy u =>
    hy.of_same (execOp_put oi hsi a oj.dst u h3) (wanted_put oi a oj.dst u h3)
  have keepD : ∀ d, YieldsE P ops S oi v { a with defers := d :: a.defers } := fun d => hy.of_same rfl rfl
  unfold wpOp at *
  simp only [hj] at *
  rw [wanted_put oj a oi.dst v h1] at h
  split
  · rename_i hw
    simp only [hw, if_true] at h
    rcases h with h | ⟨hasks, hlets⟩
    case inr => exact absurd hlets (by rintro ⟨_, _, h⟩; exact h)
    refine .inl ?_
    unfold Oper.wp at *
    rw [execOp_put oj hsj a oi.dst v h1] at h
    generalize (execOp a.eval oj).run P w = r at *
    cases r with
    | ok n w' =>
      cases n <;> simp only [Oper.upon] at h ⊢
      case value u => exact ⟨keep a hy u, by rw [← Act.put_comm a v u h2]; exact h⟩
      case skip => exact ⟨keep a hy _, by rw [← Act.put_comm a v undef h2]; exact h⟩
      case defer d =>
        refine ⟨keep _ (keepD d) _, ?_⟩
        rw [← Act.put_comm _ v undef h2, ← Act.put_defers]
        exact h
      case enter f args =>
        refine Calls.mono h fun e w'' he => ?_
        cases e with
        | returned u => exact ⟨keep a hy u, by rw [← Act.put_comm a v u h2]; exact he⟩
        | panicked c => exact he
        | outgrown => exact he
      case row row args => exact Rows.mono h fun u w'' he => ⟨keep a hy u, by rw [← Act.put_comm a v u h2]; exact he⟩
    | halt x w' =>
      cases x <;> simp only [Oper.upon] at h ⊢
      case panic u => exact h
  · rename_i hw
    simp only [hw] at h
    exact ⟨keep a hy _, by rw [← Act.put_comm a v undef h2]; exact h⟩

/-- Operation i waits, by an edge of its own, for k. -/
def direct (md : Region.Mode) (ops : Array Oper) (i k : Nat) : Bool := ((ops[i]?).map fun o => o.after.any fun e => Region.binds md e && e.on == k).getD false
/-- Operation i waits for k, over so many others at most. -/
def waits (md : Region.Mode) (ops : Array Oper) : Nat → Nat → Nat → Bool
  | 0, i, k => direct md ops i k
  | n + 1, i, k => direct md ops i k || ((ops[i]?).map fun o => o.after.any fun e => Region.binds md e && waits md ops n e.on k).getD false
/-- Operation i waits for every other calm one (cs). -/
def sink (md : Region.Mode) (ops : Array Oper) (cs : List Nat) (i : Nat) : Bool := cs.all fun k => k == i || waits md ops 2 i k
/-- Whatever is listed has all that it waits for listed. -/
def Closed (md : Region.Mode) (ops : Array Oper) (listed : Array Bool) : Prop :=
  ∀ (m : Nat) (om : Oper), ops[m]? = some om → listed.getD m true = true → ∀ e ∈ om.after, Region.binds md e = true → listed.getD e.on false = true
theorem direct_spec {i k : Nat} (h : direct md ops i k = true) : ∃ o, ops[i]? = some o ∧ ∃ e ∈ o.after, Region.binds md e = true ∧ e.on = k := by
  unfold direct at h
  cases ho : ops[i]? with
  | none => simp [ho] at h
  | some o =>
    simp only [ho, Option.map_some, Option.getD_some, Array.any_eq_true', Bool.and_eq_true, beq_iff_eq] at h
    obtain ⟨e, he, h2, h3⟩ := h
    exact ⟨o, rfl, e, he, h2, h3⟩
theorem Closed.set {listed : Array Bool} {j : Nat} (h : Closed md ops listed) (hj : j ∈ Region.ready md ops listed) : Closed md ops (listed.setIfInBounds j true) := by
  intro m om hm hl e he hb
  refine getD_set_true ?_
  by_cases hmj : j = m
  · subst hmj
    obtain ⟨_, oj, hoj, hall⟩ := mem_ready.1 hj
    rw [hoj] at hm
    cases hm
    exact hall e he hb
  · rw [getD_set_ne true hmj] at hl
    exact h m om hm hl e he hb
theorem Closed.none (n : Nat) (hn : ops.size ≤ n) : Closed md ops (Array.replicate n false) := by
  intro m om hm hl
  have hs := (Array.getElem?_eq_some_iff.1 hm).1
  simp [show m < n by omega] at hl
theorem waits_listed {listed : Array Bool} (hc : Closed md ops listed) : ∀ (n i k : Nat), waits md ops n i k = true → (∃ o, ops[i]? = some o ∧ ∀ e ∈ o.after, Region.binds md e = true → listed.getD e.on false = true) → listed.getD k false = true
  | 0, i, k, h, ⟨oi, hoi, hall⟩ => by
    obtain ⟨o, ho, e, he, hb, rfl⟩ := direct_spec h
    rw [hoi] at ho
    cases ho
    exact hall e he hb
  | n + 1, i, k, h, ⟨oi, hoi, hall⟩ => by
    simp only [waits, Bool.or_eq_true] at h
    rcases h with h | h
    · obtain ⟨o, ho, e, he, hb, rfl⟩ := direct_spec h
      rw [hoi] at ho
      cases ho
      exact hall e he hb
    · simp only [hoi, Option.map_some, Option.getD_some, Array.any_eq_true', Bool.and_eq_true] at h
      obtain ⟨e, he, hb, hw⟩ := h
      have hm := hall e he hb
      have hlt : e.on < listed.size := by
        rcases Nat.lt_or_ge e.on listed.size with h' | h'
        · exact h'
        · simp [Array.getElem?_eq_none h'] at hm
      have hm' : listed.getD e.on true = true := by simpa [hlt] using hm
      cases ho : ops[e.on]? with
      | none =>
        exfalso
        cases n with
        | zero => simp [waits, direct, ho] at hw
        | succ n => simp [waits, direct, ho] at hw
      | some o => exact waits_listed hc n e.on k hw ⟨o, ho, fun e' he' hb' => hc e.on o ho hm' e' he' hb'⟩
/-- Where a sink may come, all others are listed. -/
theorem sink_last {i k : Nat} {cs : List Nat} {listed : Array Bool} (hc : Closed md ops listed) (h : sink md ops cs i = true) (hi : i ∈ Region.ready md ops listed) (hk : k ∈ cs) (hki : k ≠ i) : listed.getD k false = true := by
  unfold sink at h
  rw [List.all_eq_true] at h
  have h1 := h k hk
  obtain ⟨_, oi, hoi, hall⟩ := mem_ready.1 hi
  simp only [Bool.or_eq_true, beq_iff_eq, hki, false_or] at h1
  exact waits_listed hc 2 i k h1 ⟨oi, hoi, hall⟩

/-- Whatever order is picked from here on, from every world that only has new blocks. -/
def wpAnyE (P : Program) (md : Region.Mode) (ops : Array Oper) (cs : List Nat) (Q : Exit → Act → World → Prop) (S : World → Prop) : Nat → Array Bool → Act → World → Prop
  | 0, listed, a, w => ∀ w1, Ext w w1 → Region.ready md ops listed = [] ∧ Q .normal a w1
  | fuel + 1, listed, a, w => ∀ w1, Ext w w1 → (Region.ready md ops listed = [] → Q .normal a w1) ∧
    ∀ i ∈ Region.ready md ops listed, wpOp P ops Q i (fun a' w' => (sink md ops cs i = false → S w') ∧ wpAnyE P md ops cs Q S fuel (listed.setIfInBounds i true) a' w') a w1

theorem wpAny_of_E : ∀ (fuel : Nat) (listed : Array Bool) (a : Act) (w : World), wpAnyE P md ops cs Q S fuel listed a w → wpAny P md ops Q fuel listed a w
  | 0, _, _, w, h => h w (Ext.refl w)
  | fuel + 1, _, _, w, h => ⟨(h w (Ext.refl w)).1, fun i hi => wpOp_mono (fun a' w' h' => wpAny_of_E fuel _ a' w' h'.2) ((h w (Ext.refl w)).2 i hi)⟩

theorem wpAnyE_ext {fuel : Nat} {listed : Array Bool} {a : Act} {w w1 : World} (h : wpAnyE P md ops cs Q S fuel listed a w) (hE : Ext w w1) : wpAnyE P md ops cs Q S fuel listed a w1 := by
  cases fuel with
  | zero => exact fun w2 h2 => h w2 (hE.trans h2)
  | succ fuel => exact fun w2 h2 => h w2 (hE.trans h2)

theorem wpAnyE_first (hSE : ∀ w w', S w → Ext w w' → S w') {i : Nat} {oi : Oper} {v : Value} (hic : i ∈ cs) (hi : ops[i]? = some oi) (hsel : ∀ (j : Nat) (o : Oper) cs b, ops[j]? = some o → o.op ≠ .select cs b) :
    ∀ (fuel : Nat) (listed : Array Bool) (a : Act) (w : World), Closed md ops listed →
      (∀ j oj, ops[j]? = some oj → j ≠ i → listed.getD j true = false → (∀ e ∈ oj.after, Region.binds md e = true → e.on ≠ i) → oi.apart ops oj = true) →
      i ∈ Region.ready md ops listed → YieldsE P ops S oi v a → S w →
      wpAnyE P md ops cs (N Q) S fuel (listed.setIfInBounds i true) (a.put oi.dst v) w → wpAnyE P md ops cs (N Q) S (fuel + 1) listed a w := by
  intro fuel
  induction fuel with
  | zero =>
    intro listed a w _ _ hr hy hS H w1 hE
    refine ⟨fun h => (by rw [h] at hr; cases hr), fun j hj => ?_⟩
    by_cases hji : j = i
    · subst hji; exact hy.wpOp hi (hSE w w1 hS hE) (fun w2 h2 => ⟨fun _ => hSE w w2 hS (hE.trans h2), wpAnyE_ext H (hE.trans h2)⟩)
    · have := ready_mono hj hji
      rw [(H w1 hE).1] at this
      cases this
  | succ fuel ih =>
    intro listed a w hcl hfree hr hy hS H w1 hE
    refine ⟨fun h => (by rw [h] at hr; cases hr), fun j hj => ?_⟩
    by_cases hji : j = i
    · subst hji; exact hy.wpOp hi (hSE w w1 hS hE) (fun w2 h2 => ⟨fun _ => hSE w w2 hS (hE.trans h2), wpAnyE_ext H (hE.trans h2)⟩)
    · have h1 := (H w1 hE).2 j (ready_mono hj hji)
      obtain ⟨hjun, oj, hoj, hall⟩ := mem_ready.1 hj
      have hnot : ∀ e ∈ oj.after, Region.binds md e = true → e.on ≠ i := fun e he hb heq => by
        have h1 := hall e he hb
        have h0 := (mem_ready.1 hr).1
        rw [heq] at h1
        rcases Nat.lt_or_ge i listed.size with h' | h'
        · simp [h'] at h0 h1; rw [h0] at h1; cases h1
        · simp [Array.getElem?_eq_none h'] at h1
      have hsink : sink md ops cs j = false := by
        cases hs : sink md ops cs j with
        | false => rfl
        | true =>
          have h5 := sink_last hcl hs hj hic (Ne.symm hji)
          have h6 := (mem_ready.1 hr).1
          rcases Nat.lt_or_ge i listed.size with h' | h'
          · simp [h'] at h5 h6
            rw [h5] at h6
            cases h6
          · simp [Array.getElem?_eq_none h'] at h5
      have h2 := wpOp_putE hoj (hfree j oj hoj hji hjun hnot) (fun cs b => hsel i oi cs b hi) (fun cs b => hsel j oj cs b hoj) hy h1
      have hfree' : ∀ k ok, ops[k]? = some ok → k ≠ i → (listed.setIfInBounds j true).getD k true = false →
          (∀ e ∈ ok.after, Region.binds md e = true → e.on ≠ i) → oi.apart ops ok = true := fun k ok hk hki hun hno => by
        refine hfree k ok hk hki ?_ hno
        by_cases hjk : j = k
        · subst hjk; exact hjun
        · rw [getD_set_ne true hjk] at hun; exact hun
      refine wpOp_mono (fun a' w' h3 => ⟨fun _ => h3.2.1 hsink, ih (listed.setIfInBounds j true) a' w' (hcl.set hj) hfree' (ready_mono hr (Ne.symm hji)) h3.1 (h3.2.1 hsink) ?_⟩) h2
      rw [Array.setIfInBounds_comm _ _ hji]
      exact h3.2.2

/-- An order: calm operations (c), others alone (e), two others of which either may come first (f). -/
inductive Ord where
  | done
  | c (i : Nat) (r : Ord)
  | e (i : Nat) (r : Ord)
  | f (i : Nat) (r : Ord) (j : Nat) (s : Ord)
def Ord.size : Ord → Nat
  | .done => 0
  | .c _ r | .e _ r | .f _ r _ _ => r.size + 1

/-- The calm ones of an order. -/
def Ord.calms : Ord → List Nat
  | .done => []
  | .c i r => i :: r.calms
  | .e _ r => r.calms
  | .f _ r _ s => r.calms ++ s.calms
/-- THE WALK, in the order that is given. -/
def wpMix (P : Program) (ops : Array Oper) (cs : List Nat) (S : World → Prop) (Q : Exit → Act → World → Prop) : Ord → Act → World → Prop
  | .done, a, w => ∀ w1, Ext w w1 → Q .normal a w1
  | .c i rest, a, w => ∃ o, ops[i]? = some o ∧
      if Region.wanted o (yielded ops a.tmps) then ∃ v, (∀ w', S w' → o.quietAt P a (Ext w') w' v) ∧ wpMix P ops cs S Q rest (a.put o.dst v) w
      else wpMix P ops cs S Q rest (a.put o.dst undef) w
  | .e i rest, a, w => ∀ w1, Ext w w1 → wpOp P ops (N Q) i (fun a' w' => (sink .any ops cs i = false → S w') ∧ wpMix P ops cs S Q rest a' w') a w1
  | .f i r j s, a, w => ∀ w1, Ext w w1 → wpOp P ops (N Q) i (fun a' w' => (sink .any ops cs i = false → S w') ∧ wpMix P ops cs S Q r a' w') a w1 ∧ wpOp P ops (N Q) j (fun a' w' => (sink .any ops cs j = false → S w') ∧ wpMix P ops cs S Q s a' w') a w1

def mixB (md : Region.Mode) (ops : Array Oper) (cs : List Nat) : Ord → Array Bool → Bool
  | .done, listed => (Region.ready md ops listed).isEmpty
  | .c i r, listed => (Region.ready md ops listed).contains i && Region.free md ops listed i && mixB md ops cs r (listed.setIfInBounds i true)
  | .e i r, listed => (Region.ready md ops listed == [i]) && (!sink md ops cs i || r.calms.isEmpty) && mixB md ops cs r (listed.setIfInBounds i true)
  | .f i r j s, listed => (Region.ready md ops listed == [i, j]) && r.size == s.size && (!sink md ops cs i || r.calms.isEmpty) && (!sink md ops cs j || s.calms.isEmpty) && mixB md ops cs r (listed.setIfInBounds i true) && mixB md ops cs s (listed.setIfInBounds j true)

theorem wpAnyE_of_mix (hSE : ∀ w w', S w → Ext w w' → S w') (hs : Region.noSelect ops = true) : ∀ (l : Ord) (n : Nat) (listed : Array Bool) (a : Act) (w : World), (∀ i ∈ l.calms, i ∈ cs) → Closed .any ops listed → n = l.size →
    (l.calms ≠ [] → S w) → mixB .any ops cs l listed = true → wpMix P ops cs S Q l a w → wpAnyE P .any ops cs (N Q) S n listed a w
  | .done, n, listed, a, w, _, hcl, hn, _, hB, h => by
    subst hn
    exact fun w1 hE => ⟨by simpa [mixB] using hB, h w1 hE⟩
  | .c i r, n, listed, a, w, hcs, hcl, hn, hS, hB, h => by
    subst hn
    simp only [mixB, Bool.and_eq_true] at hB
    obtain ⟨⟨hr, hf⟩, hB'⟩ := hB
    obtain ⟨o, ho, h⟩ := h
    have hS' := hS (by simp [Ord.calms])
    have hic := hcs i (by simp [Ord.calms])
    have hcs' : ∀ k ∈ r.calms, k ∈ cs := fun k hk => hcs k (by simp [Ord.calms, hk])
    by_cases hw : Region.wanted o (yielded ops a.tmps) = true
    · simp only [hw, if_true] at h
      obtain ⟨v, hv, hk⟩ := h
      exact wpAnyE_first hSE hic ho (Region.noSelect_spec hs) r.size listed a w hcl (Region.free_spec ho hf) (by simpa using hr) (.inl ⟨hw, hv⟩) hS'
        (wpAnyE_of_mix hSE hs r _ _ _ w hcs' (hcl.set (by simpa using hr)) rfl (fun _ => hS') hB' hk)
    · simp only [hw] at h
      exact wpAnyE_first hSE hic ho (Region.noSelect_spec hs) r.size listed a w hcl (Region.free_spec ho hf) (by simpa using hr) (.inr ⟨by simpa using hw, rfl⟩) hS'
        (wpAnyE_of_mix hSE hs r _ _ _ w hcs' (hcl.set (by simpa using hr)) rfl (fun _ => hS') hB' h)
  | .e i r, n, listed, a, w, hcs, hcl, hn, hS, hB, h => by
    subst hn
    simp only [mixB, Bool.and_eq_true, beq_iff_eq, Bool.or_eq_true, Bool.not_eq_true', List.isEmpty_iff] at hB
    obtain ⟨⟨hr, hk⟩, hB'⟩ := hB
    intro w1 hE
    refine ⟨fun h0 => (by rw [hr] at h0; cases h0), fun j hj => ?_⟩
    rw [hr] at hj
    obtain rfl : j = i := by simpa using hj
    refine wpOp_mono (fun a' w' h' => ⟨h'.1, wpAnyE_of_mix hSE hs r _ _ a' w' hcs (hcl.set (by rw [hr]; simp)) rfl (fun hne => ?_) hB' h'.2⟩) (h w1 hE)
    rcases hk with hk | hk
    · exact h'.1 hk
    · exact absurd hk hne
  | .f i r j s, n, listed, a, w, hcs, hcl, hn, hS, hB, h => by
    subst hn
    simp only [mixB, Bool.and_eq_true, beq_iff_eq, Bool.or_eq_true, Bool.not_eq_true', List.isEmpty_iff] at hB
    obtain ⟨⟨⟨⟨⟨hr, hsz⟩, hki⟩, hkj⟩, hB1⟩, hB2⟩ := hB
    intro w1 hE
    refine ⟨fun h0 => (by rw [hr] at h0; cases h0), fun k hk => ?_⟩
    rw [hr] at hk
    have hk' : k = i ∨ k = j := by simpa using hk
    rcases hk' with rfl | rfl
    · refine wpOp_mono (fun a' w' h' => ⟨h'.1, wpAnyE_of_mix hSE hs r _ _ a' w' (fun q hq => hcs q (by simp [Ord.calms, hq])) (hcl.set (by rw [hr]; simp)) rfl (fun hne => ?_) hB1 h'.2⟩) (h w1 hE).1
      rcases hki with hki | hki
      · exact h'.1 hki
      · exact absurd hki hne
    · refine wpOp_mono (fun a' w' h' => ⟨h'.1, wpAnyE_of_mix hSE hs s _ _ a' w' (fun q hq => hcs q (by simp [Ord.calms, hq])) (hcl.set (by rw [hr]; simp)) hsz (fun hne => ?_) hB2 h'.2⟩) (h w1 hE).2
      rcases hkj with hkj | hkj
      · exact h'.1 hkj
      · exact absurd hkj hne

/-- **ONE WALK, in the order that is given, serves every order.** -/
theorem wp_region_mix {id : Nat} {a : Act} {w : World} {l : List Oper} (order : Ord) (S : World → Prop) (hm : P.follows .mixedOrders = true)
    (hB : (Region.noSelect l.toArray && order.size == l.length && mixB .any l.toArray order.calms order (Array.replicate l.length false)) = true)
    (hSE : ∀ w w', S w → Ext w w' → S w') (hS : S w.drew) (h : wpMix P l.toArray order.calms S Q order a w.drew) : (Code.region id l.toArray true).wp P Q a w := by
  simp only [Bool.and_eq_true, beq_iff_eq] at hB
  obtain ⟨⟨hs, hl⟩, hB⟩ := hB
  refine wp_mono (Q := N Q) (wp_region_any hm (wpAny_of_E (cs := order.calms) (S := S) _ _ _ _ ?_)) (fun e a w h => by cases e <;> first | exact h | exact False.elim h)
  exact wpAnyE_of_mix (P := P) (Q := Q) hSE hs order _ _ a w.drew (fun _ h => h) (Closed.none _ (by simp)) (by simp [hl]) (fun _ => hS) (by simpa using hB) h

/-! The steps -/
theorem mix_nil {a : Act} {w : World} (h : ∀ w1, Ext w w1 → Q .normal a w1) : wpMix P ops cs S Q .done a w := h

theorem mix_calm {i : Nat} {rest : Ord} {a : Act} {w : World} (o : Oper) (v : Value) (ho : ops[i]? = some o) (hw : Region.wanted o (yielded ops a.tmps) = true)
    (hv : ∀ w', S w' → o.quietAt P a (Ext w') w' v) (hk : wpMix P ops cs S Q rest (a.put o.dst v) w) : wpMix P ops cs S Q (.c i rest) a w :=
  ⟨o, ho, by rw [if_pos hw]; exact ⟨v, hv, hk⟩⟩

theorem mix_pass {i : Nat} {rest : Ord} {a : Act} {w : World} (o : Oper) (ho : ops[i]? = some o) (hw : Region.wanted o (yielded ops a.tmps) = false)
    (hk : wpMix P ops cs S Q rest (a.put o.dst undef) w) : wpMix P ops cs S Q (.c i rest) a w :=
  ⟨o, ho, by rw [if_neg (by simp [hw])]; exact hk⟩

theorem mix_move {i : Nat} {rest : Ord} {a : Act} {w : World} (o : Oper) (x : Operand) (ho : ops[i]? = some o) (hw : Region.wanted o (yielded ops a.tmps) = true)
    (hx : o.op = .move x ∨ o.op = .assign x) (hk : wpMix P ops cs S Q rest (a.put o.dst (a.eval x)) w) : wpMix P ops cs S Q (.c i rest) a w :=
  mix_calm o _ ho hw (fun w' _ => by unfold Oper.quietAt execOp; rcases hx with hx | hx <;> rw [hx] <;> exact ⟨rfl, rfl⟩) hk

theorem mix_do {i : Nat} {rest : Ord} {a : Act} {w : World} (o : Oper) (ho : ops[i]? = some o) (hw : Region.wanted o (yielded ops a.tmps) = true)
    (h : ∀ w1, Ext w w1 → o.wp P a w1 (fun a' w' => (sink .any ops cs i = false → S w') ∧ wpMix P ops cs S Q rest a' w') (N Q)) : wpMix P ops cs S Q (.e i rest) a w := by
  intro w1 hE
  unfold wpOp
  simp only [ho, hw, if_true]
  exact .inl (h w1 hE)
/-- The last operation, for which all others wait: behind it the region is over. -/
theorem mix_last {i : Nat} {a : Act} {w : World} {o : Oper} (ho : ops[i]? = some o) (hw : Region.wanted o (yielded ops a.tmps) = true) (hs : sink .any ops cs i = true)
    (h : ∀ w1, Ext w w1 → ∀ K : Act → World → Prop, (∀ a' w', (∀ w2, Ext w' w2 → Q .normal a' w2) → K a' w') → o.wp P a w1 K (N Q)) : wpMix P ops cs S Q (.e i .done) a w :=
  mix_do o ho hw fun w1 hE => h w1 hE _ fun _ _ hq => ⟨fun h0 => (by rw [hs] at h0; cases h0), hq⟩
/-- Another operation that stands alone. -/
theorem mix_one {i : Nat} {rest : Ord} {a : Act} {w : World} {o : Oper} (ho : ops[i]? = some o) (hw : Region.wanted o (yielded ops a.tmps) = true)
    (h : ∀ w1, Ext w w1 → ∀ K : Act → World → Prop, (∀ a' w', S w' → wpMix P ops cs S Q rest a' w' → K a' w') → o.wp P a w1 K (N Q)) : wpMix P ops cs S Q (.e i rest) a w :=
  mix_do o ho hw fun w1 hE => h w1 hE _ fun _ _ hs hr => ⟨fun _ => hs, hr⟩
/-- Two that stand alone, either first. -/
theorem mix_two {i j : Nat} {r s : Ord} {a : Act} {w : World} {o p : Oper} (ho : ops[i]? = some o) (hw : Region.wanted o (yielded ops a.tmps) = true) (hp : ops[j]? = some p) (hv : Region.wanted p (yielded ops a.tmps) = true)
    (h1 : ∀ w1, Ext w w1 → ∀ K : Act → World → Prop, (∀ a' w', S w' → wpMix P ops cs S Q r a' w' → K a' w') → o.wp P a w1 K (N Q))
    (h2 : ∀ w1, Ext w w1 → ∀ K : Act → World → Prop, (∀ a' w', S w' → wpMix P ops cs S Q s a' w' → K a' w') → p.wp P a w1 K (N Q)) : wpMix P ops cs S Q (.f i r j s) a w := by
  intro w1 hE
  unfold wpOp
  simp only [ho, hw, hp, hv, if_true]
  exact ⟨.inl (h1 w1 hE _ fun _ _ hs hr => ⟨fun _ => hs, hr⟩), .inl (h2 w1 hE _ fun _ _ hs hr => ⟨fun _ => hs, hr⟩)⟩
/-- Two for which all calm ones wait. -/
theorem mix_both {i j : Nat} {r s : Ord} {a : Act} {w : World} {o p : Oper} (ho : ops[i]? = some o) (hw : Region.wanted o (yielded ops a.tmps) = true) (hp : ops[j]? = some p) (hv : Region.wanted p (yielded ops a.tmps) = true)
    (hsi : sink .any ops cs i = true) (hsj : sink .any ops cs j = true)
    (h1 : ∀ w1, Ext w w1 → ∀ K : Act → World → Prop, (∀ a' w', wpMix P ops cs S Q r a' w' → K a' w') → o.wp P a w1 K (N Q))
    (h2 : ∀ w1, Ext w w1 → ∀ K : Act → World → Prop, (∀ a' w', wpMix P ops cs S Q s a' w' → K a' w') → p.wp P a w1 K (N Q)) : wpMix P ops cs S Q (.f i r j s) a w := by
  intro w1 hE
  unfold wpOp
  simp only [ho, hw, hp, hv, if_true]
  exact ⟨.inl (h1 w1 hE _ fun _ _ hr => ⟨fun h => (by rw [hsi] at h; cases h), hr⟩), .inl (h2 w1 hE _ fun _ _ hr => ⟨fun h => (by rw [hsj] at h; cases h), hr⟩)⟩
/-- One behind all calm ones. -/
theorem mix_late {i : Nat} {rest : Ord} {a : Act} {w : World} {o : Oper} (ho : ops[i]? = some o) (hw : Region.wanted o (yielded ops a.tmps) = true) (hs : sink .any ops cs i = true)
    (h : ∀ w1, Ext w w1 → ∀ K : Act → World → Prop, (∀ a' w', wpMix P ops cs S Q rest a' w' → K a' w') → o.wp P a w1 K (N Q)) : wpMix P ops cs S Q (.e i rest) a w :=
  mix_do o ho hw fun w1 hE => h w1 hE _ fun _ _ hr => ⟨fun h0 => (by rw [hs] at h0; cases h0), hr⟩
/-! Calm operations by the kit's quiet walk -/
def noCall : Op → Bool
  | .move _ | .assign _ | .pick .. | .build .. | .load .. | .binOp .. | .unOp .. | .convert .. | .makeFunc .. | .slice .. | .fieldAddr .. | .field .. | .indexAddr .. | .index .. | .extract .. => true
  | .call { callee := .builtin b, .. } => match b with | .len | .cap | .min | .max => true | _ => false
  | _ => false

theorem value_only {s : Sem Value} {w w' : World} {f : FuncId} {args : Array Value} (h : (do pure (Next.value (← s)) : Sem Next).run P w = .ok (.enter f args) w') : False := by
  rw [Sem.run_bind] at h
  cases hs : s.run P w with
  | ok u w1 => rw [hs] at h; simp [Sem.run_pure] at h
  | halt x w1 => rw [hs] at h; simp at h

theorem noCall_spec {o : Oper} {ρ : Operand → Value} {w w' : World} {f : FuncId} {args : Array Value} (hc : noCall o.op = true) (h : (execOp ρ o).run P w = .ok (.enter f args) w') : False := by
  obtain ⟨dst, op, type, pos, after, guard⟩ := o
  cases op <;> simp only [noCall] at hc <;> try (cases hc; done)
  case move x => cases h
  case assign x => cases h
  case pick c x y =>
    simp only [execOp] at h
    rw [Sem.run_bind] at h
    cases hs : (asBool (ρ c)).run P w with
    | ok u w1 => rw [hs] at h; simp [Sem.run_pure] at h
    | halt x w1 => rw [hs] at h; simp at h
  case call c =>
    obtain ⟨callee, xs, ats⟩ := c
    cases callee <;> simp only at hc <;> try (cases hc; done)
    rename_i b
    cases b <;> simp only at hc <;> try (cases hc; done)
    all_goals exact value_only h
  all_goals exact value_only h

/-- One more calm operation, none that calls. -/
theorem mix_q {i : Nat} {rest : Ord} {a : Act} {w : World} {o : Oper} (ho : ops[i]? = some o) (hw : Region.wanted o (yielded ops a.tmps) = true) (hc : noCall o.op = true)
    (h : ∀ K : Act → Prop, (∀ a, wpMix P ops cs S Q rest a w → K a) → o.quiet P a S K) : wpMix P ops cs S Q (.c i rest) a w := by
  obtain ⟨v, h1, h2⟩ := h _ (fun _ h => h)
  refine mix_calm o v ho hw (fun w' hS => ?_) h2
  have h3 := h1 w' hS
  unfold Oper.quietAt at *
  generalize hr : (execOp a.eval o).run P w' = r at *
  cases r with
  | ok n w2 =>
    cases n with
    | enter f args => exact False.elim (noCall_spec hc hr)
    | _ => exact h3
  | halt x w2 => exact h3

/-- A call that leaves new blocks alone. -/
def calm (P : Program) (o : Oper) (a : Act) (S : World → Prop) (next : Act → Prop) : Prop := ∃ v, (∀ w, S w → Oper.quietUpon P (Ext w) w v ((execOp a.eval o).run P w)) ∧ next (a.put o.dst v)
theorem mix_c {i : Nat} {rest : Ord} {a : Act} {w : World} {o : Oper} (ho : ops[i]? = some o) (hw : Region.wanted o (yielded ops a.tmps) = true)
    (h : ∀ K : Act → Prop, (∀ a, wpMix P ops cs S Q rest a w → K a) → calm P o a S K) : wpMix P ops cs S Q (.c i rest) a w := by
  obtain ⟨v, h1, h2⟩ := h _ (fun _ h => h)
  exact mix_calm o v ho hw (fun w' hS => h1 w' hS) h2

theorem mix_nilCheck {i : Nat} {rest : Ord} {a : Act} {w : World} (o : Oper) (x : Operand) (q : Addr) (ho : ops[i]? = some o) (hw : Region.wanted o (yielded ops a.tmps) = true)
    (hx : o.op = .nilCheck x) (hv : a.eval x = .pointer (some q)) (hk : wpMix P ops cs S Q rest (a.put o.dst (.pointer (some q))) w) : wpMix P ops cs S Q (.c i rest) a w :=
  mix_calm o _ ho hw (fun w' _ => by unfold Oper.quietAt execOp; rw [hx]; simp only [hv]; exact ⟨rfl, rfl⟩) hk
end

/-! The worlds that only have new blocks, by a name of their own. -/
structure X where
  d : Nat
  os : Array Obj
  deriving Inhabited
def ap (w : World) (x : X) : World := { w with heap := w.heap ++ x.os, drawn := x.d }
/-- The class of a region that begins in w. -/
def SX (w : World) : World → Prop := fun w' => ∃ x : X, w' = ap w x
theorem ap_ext (w : World) (x : X) : Ext w (ap w x) :=
  ⟨rfl, rfl, rfl, by simp [ap], fun k hk => by simp [ap, Array.getElem?_append, hk]⟩
theorem ext_ap {w w' : World} (h : Ext w w') : SX w w' := by
  refine ⟨⟨w'.drawn, w'.heap.extract w.heap.size w'.heap.size⟩, ?_⟩
  obtain ⟨heap', tape', drawn', os', output'⟩ := w'
  have e1 : os' = w.os := h.os
  have e2 : tape' = w.tape := h.tape
  have e3 : output' = w.output := h.output
  have hs : w.heap.size ≤ heap'.size := h.size
  have hb : ∀ k, k < w.heap.size → heap'[k]? = w.heap[k]? := h.block
  subst e1 e2 e3
  have eh : heap' = w.heap ++ heap'.extract w.heap.size heap'.size := by
    apply Array.ext_getElem?
    intro k
    by_cases hk : k < w.heap.size
    · rw [Array.getElem?_append_left hk]; exact hb k hk
    · rw [Array.getElem?_append_right (by omega), Array.getElem?_extract]
      by_cases hk2 : k < heap'.size
      · rw [if_pos (by omega)]; congr 1; omega
      · rw [if_neg (by omega), Array.getElem?_eq_none (by omega)]
  simp only [ap]
  congr 1
theorem SX_iff {w w' : World} : SX w w' ↔ Ext w w' := ⟨fun ⟨x, h⟩ => h ▸ ap_ext w x, ext_ap⟩
theorem SX_ext {w : World} (a b : World) (h : SX w a) (k : Ext a b) : SX w b := ext_ap ((SX_iff.1 h).trans k)
theorem cell?_ap (w : World) (x : X) (b o : Nat) (h : b < w.heap.size) : (ap w x).cell? ⟨b, o, none⟩ = w.cell? ⟨b, o, none⟩ := Below.cell (p := ⟨b, o, none⟩) (ap_ext w x) h
theorem frozen?_ap (w : World) (x : X) (b o : Nat) (h : b < w.heap.size) : (ap w x).frozen? ⟨b, o, none⟩ = w.frozen? ⟨b, o, none⟩ := Below.frozen (p := ⟨b, o, none⟩) (ap_ext w x) h
section
variable {P : Program}
/-- The region's beginning, at the class of the worlds that only have new blocks; n: a number that is written out, not above the heap's size. -/
theorem wp_region_mixX {id : Nat} {Q : Exit → Act → World → Prop} {a : Act} {w : World} {l : List Oper} (n : Nat) (order : Ord) (hm : P.follows .mixedOrders = true)
    (hB : (Region.noSelect l.toArray && order.size == l.length && mixB .any l.toArray order.calms order (Array.replicate l.length false)) = true) (hn : n ≤ w.heap.size)
    (h : (∀ x b o, b < n → (ap w x).cell? ⟨b, o, none⟩ = w.cell? ⟨b, o, none⟩) → (∀ x b o, b < w.heap.size → (ap w x).cell? ⟨b, o, none⟩ = w.cell? ⟨b, o, none⟩) →
      wpMix P l.toArray order.calms (fun w' => ∃ x : X, w' = ap w x) Q order a w.drew) : (Code.region id l.toArray true).wp P Q a w :=
  wp_region_mix order (fun w' => ∃ x : X, w' = ap w x) hm hB SX_ext (ext_ap (Ext.drew w))
    (h (fun x b o hb => cell?_ap w x b o (Nat.lt_of_lt_of_le hb hn)) (fun x b o hb => cell?_ap w x b o hb))
end
end Go.Proofs.Ytoipadeeochbnaa.Mix
