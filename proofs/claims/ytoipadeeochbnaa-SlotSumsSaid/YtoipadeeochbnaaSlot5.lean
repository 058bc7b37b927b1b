import Derived.Test.YtoipadeeochbnaaSlot4
namespace Go.Proofs.Ytoipadeeochbnaa
open Go.RowKit Mix
attribute [local go_sem] Mix.calm Oper.quietUpon

theorem roomV_bd (W H M I C : Int) : 0 ≤ roomV W H M I C ∧ roomV W H M I C ≤ 1600000000 := by
  unfold roomV
  split
  · omega
  · rename_i h
    have h1 : interV W H M I ≠ 0 := fun e => h (.inl e)
    have h2 : 0 ≤ C ∧ C ≤ 3 := by
      rcases Classical.em (0 ≤ C ∧ C ≤ 3) with h2 | h2
      · exact h2
      · exact absurd (.inr h2) h
    obtain ⟨b1, b2, b3, b4, b5⟩ := full_bd h1
    have hl := bytesV_bd (n := fullV W H M I * 24) (by omega) (by omega)
    have hh := bytesV_bd (n := fullV W H M I * 1662) (by omega) (by omega)
    obtain ⟨l1, l2, e1⟩ := hl
    obtain ⟨m1, m2, e2⟩ := hh
    have hd : 0 ≤ bytesV (fullV W H M I * 1662) - bytesV (fullV W H M I * 24) ∧ bytesV (fullV W H M I * 1662) - bytesV (fullV W H M I * 24) ≤ 700000000 := by
      rw [e1, e2]; omega
    have hp : 0 ≤ C * (bytesV (fullV W H M I * 1662) - bytesV (fullV W H M I * 24)) ∧ C * (bytesV (fullV W H M I * 1662) - bytesV (fullV W H M I * 24)) ≤ 2100000000 := by
      refine ⟨Int.mul_nonneg h2.1 hd.1, ?_⟩
      have := Int.mul_le_mul h2.2 hd.2 hd.1 (by omega)
      omega
    omega
def slotV (W H M I C : Int) : Int := if 0 < roomV W H M I C then roomV W H M I C + 2 else 0
theorem slotV_bd (W H M I C : Int) : 0 ≤ slotV W H M I C ∧ slotV W H M I C ≤ 1600000002 := by
  have := roomV_bd W H M I C
  unfold slotV
  split <;> omega
theorem Slot_any (W H M Qu I C : Int) (w : World) : Calls Try.prog 55 #[.agg #[.int .i64 W, .int .i64 H, .int .i64 M, .int .i64 Qu, .int .i64 I, .int .i64 C]] w fun e w' => e = .returned (.int .i64 (slotV W H M I C)) ∧ Ext w w' := by
  have hb := roomV_bd W H M I C
  by_cases h : 0 < roomV W H M I C
  · have e : slotV W H M I C = roomV W H M I C + 2 := by unfold slotV; rw [if_pos h]
    rw [e]
    clear e
    go_enter Try.func55, Try.ntmps55
    go_wp2_with (go_at_call 53; refine (Room_any W H M Qu I C _).mono ?_; intro e w1 h; have he := h.1; have hE := h.2; clear h; subst he; have hc1 := hE.cells (w.heap.size + 1) (by first | omega | (simp; done) | (simp; omega)); have hf1 := hE.marks (w.heap.size + 1) (by first | omega | (simp; done) | (simp; omega)); have hs1 := hE.sizes (w.heap.size + 1) (by first | omega | (simp; done) | (simp; omega)); have hg1 := hE.rules.1; have hh1 := hE.rules.2; have hl1_0 : w.heap.size < w1.heap.size := (by omega))
    go_ret
    exact ⟨rfl, by (repeat' (first | exact Ext.refl _ | assumption | refine Ext.alloc' ?_ _ | (refine Ext.set' ?_ (by first | omega | (simp; done) | (simp; omega)) _) | refine Ext.drew' ?_ | refine Ext.drewN' ?_ _ | refine Ext.trans ?_ (by assumption)))⟩
  · have e : slotV W H M I C = 0 := by unfold slotV; rw [if_neg h]
    rw [e]
    clear e
    go_enter Try.func55, Try.ntmps55
    go_wp2_with (go_at_call 53; refine (Room_any W H M Qu I C _).mono ?_; intro e w1 h; have he := h.1; have hE := h.2; clear h; subst he; have hc1 := hE.cells (w.heap.size + 1) (by first | omega | (simp; done) | (simp; omega)); have hf1 := hE.marks (w.heap.size + 1) (by first | omega | (simp; done) | (simp; omega)); have hs1 := hE.sizes (w.heap.size + 1) (by first | omega | (simp; done) | (simp; omega)); have hg1 := hE.rules.1; have hh1 := hE.rules.2; have hl1_0 : w.heap.size < w1.heap.size := (by omega))
    go_ret
    exact ⟨rfl, by (repeat' (first | exact Ext.refl _ | assumption | refine Ext.alloc' ?_ _ | (refine Ext.set' ?_ (by first | omega | (simp; done) | (simp; omega)) _) | refine Ext.drew' ?_ | refine Ext.drewN' ?_ _ | refine Ext.trans ?_ (by assumption)))⟩

def reserveV (M k f : Int) : Int := if k < 0 ∨ f ≤ k ∨ 8388608 < f ∨ nP M = 0 then 0 else 24 * (f - k)
theorem Reserve_any (W H M Qu I C : Int) (k f : Int) (w : World) : Calls Try.prog 54 #[.agg #[.int .i64 W, .int .i64 H, .int .i64 M, .int .i64 Qu, .int .i64 I, .int .i64 C], .int .i64 k, .int .i64 f] w fun e w' => e = .returned (.int .i64 (reserveV M k f)) ∧ Ext w w' := by
  by_cases h1 : k < 0
  · have e : reserveV M k f = 0 := by unfold reserveV; rw [if_pos (.inl h1)]
    rw [e]
    clear e
    have h1' : decide (k < 0) = true := by simpa using h1
    go_enter Try.func54, Try.ntmps54
    go_wp2
    go_ret
    exact ⟨rfl, by (repeat' (first | exact Ext.refl _ | assumption | refine Ext.alloc' ?_ _ | (refine Ext.set' ?_ (by first | omega | (simp; done) | (simp; omega)) _) | refine Ext.drew' ?_ | refine Ext.drewN' ?_ _ | refine Ext.trans ?_ (by assumption)))⟩
  have h1' : decide (k < 0) = false := by simpa using h1
  by_cases h2 : f ≤ k
  · have e : reserveV M k f = 0 := by unfold reserveV; rw [if_pos (.inr (.inl h2))]
    rw [e]
    clear e
    have h2' : decide (f ≤ k) = true := by simpa using h2
    go_enter Try.func54, Try.ntmps54
    go_wp2
    go_ret
    exact ⟨rfl, by (repeat' (first | exact Ext.refl _ | assumption | refine Ext.alloc' ?_ _ | (refine Ext.set' ?_ (by first | omega | (simp; done) | (simp; omega)) _) | refine Ext.drew' ?_ | refine Ext.drewN' ?_ _ | refine Ext.trans ?_ (by assumption)))⟩
  have h2' : decide (f ≤ k) = false := by simpa using h2
  by_cases h3 : 8388608 < f
  · have e : reserveV M k f = 0 := by unfold reserveV; rw [if_pos (.inr (.inr (.inl h3)))]
    rw [e]
    clear e
    have h3' : decide (8388608 < f) = true := by simpa using h3
    go_enter Try.func54, Try.ntmps54
    go_wp2
    go_ret
    exact ⟨rfl, by (repeat' (first | exact Ext.refl _ | assumption | refine Ext.alloc' ?_ _ | (refine Ext.set' ?_ (by first | omega | (simp; done) | (simp; omega)) _) | refine Ext.drew' ?_ | refine Ext.drewN' ?_ _ | refine Ext.trans ?_ (by assumption)))⟩
  have h3' : decide (8388608 < f) = false := by simpa using h3
  by_cases h4 : nP M = 0
  · have e : reserveV M k f = 0 := by unfold reserveV; rw [if_pos (.inr (.inr (.inr h4)))]
    rw [e]
    clear e
    have h4' : ((nP M : Int) == 0) = true := by simp [h4]
    clear h4
    go_enter Try.func54, Try.ntmps54
    go_wp2_with (go_at_call 48; refine (Parts_any M _).mono ?_; rintro e w1 ⟨a, cap, rfl, hc, hE⟩; have hc1 := hE.cells (w.heap.size + 1) (by first | omega | (simp; done) | (simp; omega)); have hf1 := hE.marks (w.heap.size + 1) (by first | omega | (simp; done) | (simp; omega)); have hs1 := hE.sizes (w.heap.size + 1) (by first | omega | (simp; done) | (simp; omega)); have hg1 := hE.rules.1; have hh1 := hE.rules.2; have hl1_0 : w.heap.size < w1.heap.size := (by omega))
    go_ret
    exact ⟨rfl, by (repeat' (first | exact Ext.refl _ | assumption | refine Ext.alloc' ?_ _ | (refine Ext.set' ?_ (by first | omega | (simp; done) | (simp; omega)) _) | refine Ext.drew' ?_ | refine Ext.drewN' ?_ _ | refine Ext.trans ?_ (by assumption)))⟩
  have h4' : ((nP M : Int) == 0) = false := by simp [h4]
  have e : reserveV M k f = 24 * (f - k) := by unfold reserveV; rw [if_neg (by simp [h1, h2, h3, h4])]
  rw [e]
  clear h4 e
  go_enter Try.func54, Try.ntmps54
  go_wp2_with (go_at_call 48; refine (Parts_any M _).mono ?_; rintro e w1 ⟨a, cap, rfl, hc, hE⟩; have hc1 := hE.cells (w.heap.size + 1) (by first | omega | (simp; done) | (simp; omega)); have hf1 := hE.marks (w.heap.size + 1) (by first | omega | (simp; done) | (simp; omega)); have hs1 := hE.sizes (w.heap.size + 1) (by first | omega | (simp; done) | (simp; omega)); have hg1 := hE.rules.1; have hh1 := hE.rules.2; have hl1_0 : w.heap.size < w1.heap.size := (by omega))
  go_ret
  exact ⟨rfl, by (repeat' (first | exact Ext.refl _ | assumption | refine Ext.alloc' ?_ _ | (refine Ext.set' ?_ (by first | omega | (simp; done) | (simp; omega)) _) | refine Ext.drew' ?_ | refine Ext.drewN' ?_ _ | refine Ext.trans ?_ (by assumption)))⟩

/-- Why public numbers may not be. -/
def checkV (W H M Qu I C : Int) : Int :=
  if okS W = false ∨ okS H = false then 10 else if 67108864 < W * H then 15 else if btw M 1 4 = false then 11 else if btw Qu 1 100 = false then 12
  else if btw I 1 65535 = false then 13 else if btw C 0 3 = false then 14 else if 1048576 < slotV W H M I C then 3 else 0
end Go.Proofs.Ytoipadeeochbnaa
