import Derived.Test.YtoipadeeochbnaaPlane1
import Derived.Maps.AppendAt
import Derived.Lib.Hide
namespace Go.Proofs.Ytoipadeeochbnaa
open Go.RowKit Mix
attribute [local go_sem] Mix.calm Oper.quietUpon

/-- The parts of an MCU's blocks, up to part k: ns: how many blocks each part has. -/
def upto (ns : List Nat) (k : Nat) : List Int := (List.range k).flatMap fun j => List.replicate (ns.getD j 0) (j : Int)
theorem upto_zero (ns : List Nat) : upto ns 0 = [] := rfl
theorem upto_succ (ns : List Nat) (k : Nat) : upto ns (k + 1) = upto ns k ++ List.replicate (ns.getD k 0) (k : Int) := by
  simp [upto, List.range_succ]
theorem Try.infoInt : (Try.prog.info? 3).map (fun i => (i.zero, i.size, i.bytes)) = some (some (.int .i64 0), 1, 8) := by kernel_rfl

theorem ownsRow_mono {w : World} {base base' : Nat} {e : TypeId} {size : Nat} {v : Value} {n : Nat} {xs : List Value} (h : w.ownsRow base e size v n xs) (hb : base' ≤ base) : w.ownsRow base' e size v n xs := by
  obtain ⟨h1, h2⟩ := h
  refine ⟨h1, ?_⟩
  rcases h2 with h2 | ⟨g, cap, cur, hv, hg, r⟩
  · exact Or.inl h2
  · exact Or.inr ⟨g, cap, cur, hv, Nat.le_trans hb hg, r⟩
set_option maxHeartbeats 1000000 in
set_option maxRecDepth 100000 in
theorem Parts_walk (m : Int) (n : Nat) (C : Array Value) (A B : Nat → Int) (ns : List Nat) (w : World)
    (hS : ∀ w, Calls Try.prog 86 #[.int .i64 m] w fun e w' => ∃ b, e = .returned (.slice (some ⟨b, 0, none⟩) n n) ∧ w'.heap[b]? = some (.cells C 123 (0, 0)) ∧ Ext w w')
    (hn : n ≤ 3) (hC : ∀ k, k < n → C[k * 2]? = some (.int .i64 (A k)) ∧ C[k * 2 + 1]? = some (.int .i64 (B k)))
    (hAB : ∀ k, k < n → 0 ≤ A k ∧ A k ≤ 4 ∧ 0 ≤ B k ∧ B k ≤ 4 ∧ A k * B k = ((ns.getD k 0 : Nat) : Int) ∧ ns.getD k 0 ≤ 16) :
    Calls Try.prog 48 #[.int .i64 m] w fun e w' => ∃ v, e = .returned v ∧ w'.ownsRow w.heap.size 3 1 v (upto ns n).length ((upto ns n).map (Value.int .i64)) ∧ Ext w w' := by
  obtain ⟨i0, hi, hz0, hz1, hz2⟩ := info_parts Try.infoInt
  go_enter Try.func48, Try.ntmps48
  go_wp2_with (go_at_call 86; refine (hS _).mono ?_; rintro e w1 ⟨b, rfl, hb, hE⟩)
  have hcb := blk_cell hb
  have hbl := blk_lt hb
  have hw1 := hE.size
  clear hS hb
  go_loopw [3, 9] (fun v i wr => ∃ k : Nat, k ≤ n ∧ i = .int .i64 k ∧ wr.ownsRow w1.heap.size 3 1 v (upto ns k).length ((upto ns k).map (Value.int .i64)) ∧ Ext w1 wr ∧ (upto ns k).length ≤ k * 16) (fun _ i _ => n - (intOf i).toNat)
  case atStart => exact ⟨0, Nat.zero_le _, rfl, by rw [upto_zero]; exact World.ownsRow_nil _ _ _ _, Ext.refl _, by simp [upto_zero]⟩
  case round =>
    obtain ⟨k, hk, rfl, hown, hEr, hlen⟩ := hrel
    have hA : k < n → wr.cell? ⟨b, k * 2, none⟩ = some (.int .i64 (A k)) := fun h => by rw [hEr.cells _ (Nat.le_refl _) _ _ hbl, hcb]; exact (hC k h).1
    have hB : k < n → wr.cell? ⟨b, k * 2 + 1, none⟩ = some (.int .i64 (B k)) := fun h => by rw [hEr.cells _ (Nat.le_refl _) _ _ hbl, hcb]; exact (hC k h).2
    have hbr : b < wr.heap.size := Nat.lt_of_lt_of_le hbl hEr.size
    by_cases hlt : k < n
    · have hA' := hA hlt
      have hB' := hB hlt
      obtain ⟨a0, a1, b0, b1, hns, hN16⟩ := hAB k hlt
      have hus := upto_succ ns k
      clear hA hB hC hAB
      generalize ns.getD k 0 = N at *
      have HU := Lib.hid hus
      clear hus
      go_wp2
      obtain ⟨wo, rfl⟩ : ∃ wo : World, wo = wr := ⟨_, rfl⟩
      go_loopw [3, 19] (fun v i wq => ∃ j : Nat, j ≤ N ∧ i = .int .i64 j ∧ wq.ownsRow w1.heap.size 3 1 v (upto ns k ++ List.replicate j (k : Int)).length ((upto ns k ++ List.replicate j (k : Int)).map (Value.int .i64)) ∧ Ext w1 wq ∧ wo.heap.size ≤ wq.heap.size) (fun _ i _ => N - (intOf i).toNat)
      case atStart => exact ⟨0, Nat.zero_le _, rfl, by simpa using hown.alloc _, hEr.alloc' _, by simp⟩
      case round =>
        obtain ⟨j, hj, rfl, hown2, hEq, hsz⟩ := hrel
        by_cases hjt : j < N
        · go_wp2_with (at_builtin; refine wpList_append_own _ rfl _ _ 63 rfl w1.heap.size 3 i0 (.int .i64 0) 1 8 Try.underlying63 hi hz0 hz1 hz2 rfl (by decide) _ _ _ rfl (hown2.alloc _) ⟨wr.heap.size, 0, none⟩ 1 1 [.int .i64 k] rfl rfl (cell_one_new _ _ _) (by simp [Value.oneCell']) (by simp [maxLen]; omega) (by simp; omega) (by have := hEq.size; simp; omega) ?_; intro v' w2 hown' hgrow _)
          go_roundw
          case rel =>
            refine ⟨j + 1, by omega, by go_num, ?_, ?_, ?_⟩
            · have e : upto ns k ++ List.replicate (j + 1) (k : Int) = (upto ns k ++ List.replicate j (k : Int)) ++ [(k : Int)] := by rw [List.replicate_succ']; simp
              rw [e, List.map_append, List.length_append]
              exact hown'
            · exact (Below.grown (hEq.alloc' _) hgrow (Nat.le_trans hEq.size (by simp)) (fun g hg => (hown2.lt g hg).1))
            · exact Nat.le_trans hsz (Nat.le_trans (by simp) hgrow.size)
          case measure => simp [intOf]; omega
        · go_wp2
          have hjN : j = N := by omega
          subst hjN
          go_roundw
          case rel =>
            refine ⟨k + 1, by omega, by go_num, ?_, hEq, ?_⟩
            · rw [HU.out]; exact hown2
            · rw [HU.out]; simp; omega
          case measure => simp [intOf]; omega
    · go_wp2
      go_ret
      have : k = n := by omega
      subst this
      exact ⟨_, rfl, ownsRow_mono hown hw1, hE.trans hEr⟩

def nsL (m : Int) : List Nat := if m = 1 then [1] else if m = 2 then [1, 1, 1] else if m = 3 then [2, 1, 1] else if m = 4 then [4, 1, 1] else []
def partsL (m : Int) : List Int := upto (nsL m) (nsL m).length
/-- How many blocks an MCU has. -/
def nP (m : Int) : Nat := if m = 1 then 1 else if m = 2 then 3 else if m = 3 then 4 else if m = 4 then 6 else 0
/-- What Parts hands back: as many as there are, each in its place. -/
def PartsPost (m : Int) (w : World) (e : Ending) (w' : World) : Prop :=
  ∃ a cap, e = .returned (.slice a (nP m) cap) ∧ (∀ i u, (partsL m)[i]? = some u → ∃ g, a = some ⟨g, 0, none⟩ ∧ w'.cell? ⟨g, i, none⟩ = some (.int .i64 u)) ∧ Ext w w'
theorem parts_form {w : World} {base : Nat} {v : Value} {xs : List Int} (h : w.ownsRow base 3 1 v xs.length (xs.map (Value.int .i64))) :
    ∃ a cap, v = .slice a xs.length cap ∧ ∀ i u, xs[i]? = some u → ∃ g, a = some ⟨g, 0, none⟩ ∧ w.cell? ⟨g, i, none⟩ = some (.int .i64 u) := by
  have hc := h
  obtain ⟨_, h2⟩ := h
  rcases h2 with ⟨rfl, hn⟩ | ⟨g, cap, cur, rfl, hg, r⟩
  · refine ⟨none, 0, by rw [hn], fun i u hi => ?_⟩
    have : xs = [] := List.length_eq_zero_iff.1 hn
    subst this
    simp at hi
  · refine ⟨_, _, rfl, fun i u hi => ⟨g, rfl, ?_⟩⟩
    have := hc.cells (g := g) rfl i (.int .i64 u) (by simp [hi])
    rw [show (⟨g, 0, none⟩ : Addr).add i = ⟨g, i, none⟩ from by unfold Addr.add; split <;> simp_all] at this
    exact this
theorem Parts1 (w : World) : Calls Try.prog 48 #[.int .i64 1] w (PartsPost 1 w) := by
  refine (Parts_walk 1 1 #[.int .i64 1, .int .i64 1] (fun _ => 1) (fun _ => 1) (nsL 1) w (fun w => (Sides1 w)) (by decide) ?_ ?_).mono ?_
  · intro k hk
    match k, hk with
    | 0, _ => exact ⟨rfl, rfl⟩
  · intro k hk
    match k, hk with
    | 0, _ => decide
  · rintro e w' ⟨v, rfl, hown, hE⟩
    obtain ⟨a, cap, rfl, hc⟩ := parts_form hown
    exact ⟨a, cap, rfl, hc, hE⟩
theorem Parts2 (w : World) : Calls Try.prog 48 #[.int .i64 2] w (PartsPost 2 w) := by
  refine (Parts_walk 2 3 #[.int .i64 1, .int .i64 1, .int .i64 1, .int .i64 1, .int .i64 1, .int .i64 1] (fun _ => 1) (fun _ => 1) (nsL 2) w (fun w => (Sides2 w)) (by decide) ?_ ?_).mono ?_
  · intro k hk
    match k, hk with
    | 0, _ => exact ⟨rfl, rfl⟩
    | 1, _ => exact ⟨rfl, rfl⟩
    | 2, _ => exact ⟨rfl, rfl⟩
  · intro k hk
    match k, hk with
    | 0, _ => decide
    | 1, _ => decide
    | 2, _ => decide
  · rintro e w' ⟨v, rfl, hown, hE⟩
    obtain ⟨a, cap, rfl, hc⟩ := parts_form hown
    exact ⟨a, cap, rfl, hc, hE⟩
theorem Parts3 (w : World) : Calls Try.prog 48 #[.int .i64 3] w (PartsPost 3 w) := by
  refine (Parts_walk 3 3 #[.int .i64 2, .int .i64 1, .int .i64 1, .int .i64 1, .int .i64 1, .int .i64 1] (fun k => if k = 0 then 2 else 1) (fun _ => 1) (nsL 3) w (fun w => (Sides3 w)) (by decide) ?_ ?_).mono ?_
  · intro k hk
    match k, hk with
    | 0, _ => exact ⟨rfl, rfl⟩
    | 1, _ => exact ⟨rfl, rfl⟩
    | 2, _ => exact ⟨rfl, rfl⟩
  · intro k hk
    match k, hk with
    | 0, _ => decide
    | 1, _ => decide
    | 2, _ => decide
  · rintro e w' ⟨v, rfl, hown, hE⟩
    obtain ⟨a, cap, rfl, hc⟩ := parts_form hown
    exact ⟨a, cap, rfl, hc, hE⟩
theorem Parts4 (w : World) : Calls Try.prog 48 #[.int .i64 4] w (PartsPost 4 w) := by
  refine (Parts_walk 4 3 #[.int .i64 2, .int .i64 2, .int .i64 1, .int .i64 1, .int .i64 1, .int .i64 1] (fun k => if k = 0 then 2 else 1) (fun k => if k = 0 then 2 else 1) (nsL 4) w (fun w => (Sides4 w)) (by decide) ?_ ?_).mono ?_
  · intro k hk
    match k, hk with
    | 0, _ => exact ⟨rfl, rfl⟩
    | 1, _ => exact ⟨rfl, rfl⟩
    | 2, _ => exact ⟨rfl, rfl⟩
  · intro k hk
    match k, hk with
    | 0, _ => decide
    | 1, _ => decide
    | 2, _ => decide
  · rintro e w' ⟨v, rfl, hown, hE⟩
    obtain ⟨a, cap, rfl, hc⟩ := parts_form hown
    exact ⟨a, cap, rfl, hc, hE⟩
theorem Parts0 (m : Int) (h1 : (m == 1) = false) (h2 : (m == 2) = false) (h3 : (m == 3) = false) (h4 : (m == 4) = false) (w : World) :
    Calls Try.prog 48 #[.int .i64 m] w fun e w' => e = .returned (.slice none 0 0) ∧ Ext w w' := by
  go_enter Try.func48, Try.ntmps48
  go_wp2_with (go_at_call 86; refine (Sides0 m h1 h2 h3 h4 _).mono ?_; rintro e w1 ⟨rfl, hE⟩)
  refine wp_loop_rounds 1 ?_
  rw [rounds_succ]
  go_wp2
  go_ret
  exact ⟨rfl, by (repeat' (first | exact Ext.refl _ | assumption | refine Ext.alloc' ?_ _ | (refine Ext.set' ?_ (by first | omega | (simp; done) | (simp; omega)) _) | refine Ext.drew' ?_ | refine Ext.drewN' ?_ _ | refine Ext.trans ?_ (by assumption)))⟩
theorem Parts_any (m : Int) (w : World) : Calls Try.prog 48 #[.int .i64 m] w (PartsPost m w) := by
  by_cases h1 : m = 1
  · subst h1; exact Parts1 w
  by_cases h2 : m = 2
  · subst h2; exact Parts2 w
  by_cases h3 : m = 3
  · subst h3; exact Parts3 w
  by_cases h4 : m = 4
  · subst h4; exact Parts4 w
  refine (Parts0 m (by simpa using h1) (by simpa using h2) (by simpa using h3) (by simpa using h4) w).mono ?_
  rintro e w' ⟨rfl, hE⟩
  exact ⟨none, 0, by simp [nP, h1, h2, h3, h4], fun i u hi => by simp [partsL, nsL, h1, h2, h3, h4, upto] at hi, hE⟩
end Go.Proofs.Ytoipadeeochbnaa
