import Derived.Test.YtoipadeeochbnaaScan2
import Derived.Test.YtoipadeeochbnaaEvs
import Derived.Shelf.Abstract
namespace Go.Proofs.Ytoipadeeochbnaa
open Go.RowKit Mix
set_option linter.unusedVariables false
attribute [local go_sem] Mix.calm Oper.quietUpon Oper.semAt_some
theorem Rc.cells {w : World} {p : Option Nat} {es : List (Int × Int)} {F : List Nat} (h : Rc w p es F) : ∀ x ∈ F, ∀ o, w.heap[x]? = some o → o.isCells = true := by
  cases p with
  | none => have : F = [] := h; subst this; simp
  | some r =>
    obtain ⟨_, v, qs, hA, rfl, _⟩ := h
    intro x hx o ho
    simp only [foot, List.mem_cons, List.mem_append, Option.mem_toList] at hx
    rcases hx with rfl | hx | hx
    · rw [hA.cell] at ho; cases ho; rfl
    · exact own_cells hA.row x hx o ho
    · obtain ⟨j, hj⟩ := List.getElem?_of_mem hx
      have hl := (List.getElem?_eq_some_iff.1 hj).1
      rw [hA.len] at hl
      exact own_cells (hA.part j _ x (List.getElem?_eq_getElem hl) hj) x rfl o ho
theorem Bf.cells {w : World} {b : Nat} {p : Option Nat} {xs : List Int} {es : List (Int × Int)} {F : List Nat} (h : Bf w b p xs es F) : ∀ x ∈ F, ∀ o, w.heap[x]? = some o → o.isCells = true := by
  obtain ⟨v, Fr, hB, rfl⟩ := h
  intro x hx o ho
  simp only [bfoot, List.mem_cons, List.mem_append, Option.mem_toList] at hx
  rcases hx with rfl | hx | hx
  · rw [hB.cell] at ho; cases ho; rfl
  · exact own_cells hB.row x hx o ho
  · exact hB.rc.cells x hx o ho
theorem Bf.book {B : Nat} {W W' : World} {b : Nat} {p : Option Nat} {xs : List Int} {es : List (Int × Int)} {F : List Nat} (h : Bf W b p xs es F) (k : Book B W W') : Bf W' b p xs es F := by
  obtain ⟨v, Fr, hB, rfl⟩ := h
  exact ⟨v, Fr, ⟨k.same b _ (.inr rfl) hB.cell, ownsRow_book hB.row k, hB.nil, hB.rc.book k, hB.apart⟩, rfl⟩
theorem Turn.book {F : List Nat} {w W W' : World} (h : Turn F w W) (k : Book w.heap.size W W') : Turn F w W' :=
  ⟨k.os.trans h.os, k.tape.trans h.tape, k.output.trans h.output, Nat.le_trans h.size k.size, fun x hx hF => by
    have h1 := h.block x hx hF
    have hx1 := Nat.lt_of_lt_of_le hx h.size
    rw [Array.getElem?_eq_getElem hx1] at h1
    rw [← h1]
    exact k.same x _ (.inl hx) (Array.getElem?_eq_getElem hx1)⟩
/-- The state of a loop over a window that began in w1: the buffer; O: the loop's own boxes. -/
def St (w1 : World) (O F : List Nat) (b : Nat) (p : Option Nat) (xs : List Int) (es : List (Int × Int)) (W : World) : Prop :=
  ∃ F', Bf W b p xs es F' ∧ (∀ x ∈ F', x ∈ F ∨ w1.heap.size ≤ x) ∧ Turn (O ++ F) w1 W
section
variable {w1 W W' : World} {O F : List Nat} {b : Nat} {p : Option Nat} {xs xs' : List Int} {es es' : List (Int × Int)}
theorem St.ext (h : St w1 O F b p xs es W) (k : Ext W W') : St w1 O F b p xs es W' := by
  obtain ⟨F', h1, h2, h3⟩ := h
  exact ⟨F', h1.ext k, h2, h3.seq (Turn.of_ext k)⟩
theorem St.book (h : St w1 O F b p xs es W) (k : Book w1.heap.size W W') : St w1 O F b p xs es W' := by
  obtain ⟨F', h1, h2, h3⟩ := h
  exact ⟨F', h1.book k, h2, h3.book k⟩
/-- A store into one of the loop's own boxes. -/
theorem St.set (h : St w1 O F b p xs es W) {x : Nat} (hx : x ∈ O) (hx1 : x < w1.heap.size) (hxF : x ∉ F) (v : Value) : St w1 O F b p xs es (W.setCell ⟨x, 0, none⟩ v) := by
  obtain ⟨F', h1, h2, h3⟩ := h
  refine ⟨F', h1.turn (turn_set (F := [x]) (by simp)) (fun y hy hm => ?_), h2, h3.seq (turn_set (by simp [hx]))⟩
  simp only [List.mem_singleton] at hm
  subst hm
  rcases h2 y hy with h | h
  · exact hxF h
  · omega
theorem St.boxed (h : St w1 O F b p xs es W) {x : Nat} {t : TypeId} {v : Value} (hb : Boxed w1 x t v) (hx : x ∉ O ++ F) : Boxed W x t v := by
  obtain ⟨F', _, _, h3⟩ := h
  exact boxed_turn hb h3 hx
theorem St.win (h : St w1 O F b p xs es W) {lo hi : Int} {Bx : Nat} (hw : WinS b p lo hi Bx w1) (hx : Bx ∉ O ++ F ∧ Bx + 1 ∉ O ++ F ∧ Bx + 2 ∉ O ++ F) : WinS b p lo hi Bx W := by
  obtain ⟨F', ⟨v, Fr, hB, _⟩, _, h3⟩ := h
  exact ⟨boxed_turn hw.b3 h3 hx.1, boxed_turn hw.b4 h3 hx.2.1, boxed_turn hw.b5 h3 hx.2.2, v, hB.cell⟩
/-- What a call on the buffer leaves. -/
def StTold (w1 : World) (O F : List Nat) (v : Value) (b : Nat) (p : Option Nat) (xs : List Int) (es : List (Int × Int)) (B : Nat) (W : World) (e : Ending) (W' : World) : Prop :=
  e = .returned v ∧ St w1 O F b p xs es W' ∧ (∀ x, x < w1.heap.size → x ∉ F → W'.heap[x]? = W.heap[x]?) ∧ KeepsFrom B W W'
theorem St.call (h : St w1 O F b p xs es W) {f : FuncId} {args : Array Value} {v : Value} {B : Nat} (hc : ∀ F', Bf W b p xs es F' → Calls Try.prog f args W (BTold v b p xs' es' F' W)) :
    Calls Try.prog f args W (StTold w1 O F v b p xs' es' B W) := by
  obtain ⟨F', h1, h2, h3⟩ := h
  refine (hc F' h1).mono ?_
  rintro e W' ⟨rfl, F2, g1, g2, g3⟩
  refine ⟨rfl, ⟨F2, g1, fun x hx => ?_, h3.trans g2 (fun x hx => ?_)⟩, fun x hx hF => ?_, g2.keeps h1.cells⟩
  · rcases g3 x hx with h | h
    · exact h2 x h
    · have := h3.size; exact .inr (by omega)
  · rcases h2 x hx with h | h
    · exact .inl (by simp [h])
    · exact .inr h
  · refine g2.block x (Nat.lt_of_lt_of_le hx h3.size) (fun hm => ?_)
    rcases h2 x hm with h | h
    · exact hF h
    · omega
theorem Br_bf (b : Nat) (p : Option Nat) (xs : List Int) (es : List (Int × Int)) (F : List Nat) (n : Int) (h0 : 0 ≤ n) (h1 : n < 268435456) (hl : p = none ∨ es.length < 316) (w : World) (h : Bf w b p xs es F) :
    Calls Try.prog 167 #[ptr p, .int .i64 n] w (BTold (.tuple #[]) b p xs (es ++ [(2, n)]) F w) := by
  obtain ⟨v, Fr, hB, rfl⟩ := h
  refine (Br_rc p es Fr n h0 h1 hl w hB.rc).mono ?_
  rintro e w' ⟨rfl, Fr', hR', hT, hF⟩
  obtain ⟨k1, k2⟩ := bold (w := w) (Nat.le_refl _) (hB.seen hR' hT hF) hF
  exact ⟨rfl, _, k1, turn_mono hT (fun y hy => by simp [bfoot, hy]), k2⟩
end
/-! The words that a scan is made of -/
theorem is_any (a i : Int) (ha : In64 a) (hi : In64 i) (w : World) : Calls Try.prog 123 #[.agg #[.int .i64 a], .int .i64 i] w fun e w' => e = .returned (.agg #[.int .i64 (mk (decide (a = i)))]) ∧ Ext w w' := by
  go_enter Try.func123, Try.ntmps123
  go_wp2
  refine Mix.wp_region_mixX (w.heap.size + 2) (.c 0 (.c 1 (.c 2 (.c 3 (.e 4 .done))))) (by kernel_rfl) (by kernel_rfl) (by first | omega | (simp; done) | (simp; omega)) (fun hap hapf => ?_)
  repeat (refine Mix.mix_q rfl rfl rfl (fun K hK => ?_); (conv => arg 2; whnf); (first | (go_big_quiet_op; refine hK _ ?_) | (go_simp; refine hK _ ?_)); clear hK K)
  (refine Mix.mix_c rfl rfl (fun K hK => ?_); (conv => arg 2; whnf); go_simp; apply Exists.intro; refine ⟨fun _ => ?_, hK _ ?_⟩; exact of_any _ _; clear hK K)
  (refine Mix.mix_c rfl rfl (fun K hK => ?_); (conv => arg 2; whnf); go_simp; apply Exists.intro; refine ⟨fun _ => ?_, hK _ ?_⟩; exact Equal_any _ _ ha hi _; clear hK K)
  (refine Mix.mix_last rfl rfl (by kernel_rfl) (fun w1 hE K hK => ?_); (conv => arg 2; whnf); clear hap hapf; have hc1 := hE.cells (w.heap.size + 2) (by first | omega | (simp; done) | (simp; omega)); have hf1 := hE.marks (w.heap.size + 2) (by first | omega | (simp; done) | (simp; omega)); have hs1 := hE.sizes (w.heap.size + 2) (by first | omega | (simp; done) | (simp; omega)); have hg1 := hE.rules.1; have hh1 := hE.rules.2; have hl1_0 : w.heap.size < w1.heap.size := (by omega); have hl1_1 : w.heap.size + 1 < w1.heap.size := (by omega); go_big_op; refine hK _ _ (fun w2 hE2 => ?_); clear hK K; have hc2 := hE2.cells (w.heap.size + 2) (by first | omega | (simp; done) | (simp; omega)); have hf2 := hE2.marks (w.heap.size + 2) (by first | omega | (simp; done) | (simp; omega)); have hs2 := hE2.sizes (w.heap.size + 2) (by first | omega | (simp; done) | (simp; omega)); have hg2 := hE2.rules.1; have hh2 := hE2.rules.2; have hl2_0 : w.heap.size < w2.heap.size := (by omega); have hl2_1 : w.heap.size + 1 < w2.heap.size := (by omega); dsimp only [Exit.then])
  go_wp2
  refine bodyPost_ret (v := _) (by simp [results, Try.results123, go_sem, *]; rfl) rfl ?_
  exact ⟨rfl, by (repeat' (first | exact Ext.refl _ | assumption | refine Ext.alloc' ?_ _ | (refine Ext.set' ?_ (by first | omega | (simp; done) | (simp; omega)) _) | refine Ext.drew' ?_ | refine Ext.drewN' ?_ _ | refine Ext.trans ?_ (by assumption)))⟩
/-- What is seen of a window. -/
def logW (l : List (Int × Int)) : List (Int × Int) := l.map fun e => (1, e.1)
def winE (lo hi : Int) : List (Int × Int) := (2, ((winN lo hi : Nat) : Int)) :: (List.range (winN lo hi)).map fun (k : Nat) => (1, lo + (k : Int))
theorem logW_win (lo hi : Int) (val : Nat → Int) : logW (winL lo hi val) = (List.range (winN lo hi)).map fun (k : Nat) => (1, lo + (k : Int)) := by simp [logW, winL]
/-- The word at a place, as a scan finds it. -/
def loadF (a : Int) (l : List (Int × Int)) : Int := l.foldl (fun o e => sel (decide (a = e.1)) e.2 o) 0
theorem loadF_snoc (a : Int) (l : List (Int × Int)) (e : Int × Int) : loadF a (l ++ [e]) = sel (decide (a = e.1)) e.2 (loadF a l) := by simp [loadF]
theorem loadF_in (a : Int) (l : List (Int × Int)) (h : ∀ e ∈ l, In64 e.2) : In64 (loadF a l) := by
  have : ∀ (l : List (Int × Int)) (o : Int), In64 o → (∀ e ∈ l, In64 e.2) → In64 (l.foldl (fun o e => sel (decide (a = e.1)) e.2 o) o) := by
    intro l
    induction l with
    | nil => intro o ho _; exact ho
    | cons e l ih =>
      intro o ho hl
      exact ih _ (in64_sel (hl e (List.mem_cons_self ..)) ho) (fun x hx => hl x (List.mem_cons_of_mem _ hx))
  exact this l 0 (by simp [In64]) h
end Go.Proofs.Ytoipadeeochbnaa
