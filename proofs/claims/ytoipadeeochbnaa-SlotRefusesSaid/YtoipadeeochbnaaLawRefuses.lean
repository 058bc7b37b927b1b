import Derived.Test.YtoipadeeochbnaaKnown14
namespace Go.Proofs.Ytoipadeeochbnaa
open Go.RowKit Mix
set_option linter.unusedVariables false
theorem ck_S {W H M Qu I C : Int} (h : okS W = false ∨ okS H = false) : checkV W H M Qu I C = 10 := by unfold checkV; rw [if_pos h]
theorem ck_M {W H M Qu I C : Int} (hW : 1 ≤ W ∧ W ≤ 200) (hH : 1 ≤ H ∧ H ≤ 200) (h : btw M 1 4 = false) : checkV W H M Qu I C = 11 := by
  have h1 : okS W = true := by rw [okS_iff]; omega
  have h2 : okS H = true := by rw [okS_iff]; omega
  have h3 := Int.mul_le_mul hW.2 hH.2 (by omega) (by omega)
  unfold checkV
  rw [h1, h2, h, if_neg (by simp), if_neg (by omega), if_pos rfl]
theorem ck_Q {W H M Qu I C : Int} (hW : 1 ≤ W ∧ W ≤ 200) (hH : 1 ≤ H ∧ H ≤ 200) (hM : btw M 1 4 = true) (h : btw Qu 1 100 = false) : checkV W H M Qu I C = 12 := by
  have h1 : okS W = true := by rw [okS_iff]; omega
  have h2 : okS H = true := by rw [okS_iff]; omega
  have h3 := Int.mul_le_mul hW.2 hH.2 (by omega) (by omega)
  unfold checkV
  rw [h1, h2, hM, h, if_neg (by simp), if_neg (by omega), if_neg (by simp), if_pos rfl]
theorem ck_I {W H M Qu I C : Int} (hW : 1 ≤ W ∧ W ≤ 200) (hH : 1 ≤ H ∧ H ≤ 200) (hM : btw M 1 4 = true) (hQ : btw Qu 1 100 = true) (h : btw I 1 65535 = false) : checkV W H M Qu I C = 13 := by
  have h1 : okS W = true := by rw [okS_iff]; omega
  have h2 : okS H = true := by rw [okS_iff]; omega
  have h3 := Int.mul_le_mul hW.2 hH.2 (by omega) (by omega)
  unfold checkV
  rw [h1, h2, hM, hQ, h, if_neg (by simp), if_neg (by omega), if_neg (by simp), if_neg (by simp), if_pos rfl]
theorem ck_C {W H M Qu I C : Int} (hW : 1 ≤ W ∧ W ≤ 200) (hH : 1 ≤ H ∧ H ≤ 200) (hM : btw M 1 4 = true) (hQ : btw Qu 1 100 = true) (hI : btw I 1 65535 = true) (h : btw C 0 3 = false) : checkV W H M Qu I C = 14 := by
  have h1 : okS W = true := by rw [okS_iff]; omega
  have h2 : okS H = true := by rw [okS_iff]; omega
  have h3 := Int.mul_le_mul hW.2 hH.2 (by omega) (by omega)
  unfold checkV
  rw [h1, h2, hM, hQ, hI, h, if_neg (by simp), if_neg (by omega), if_neg (by simp), if_neg (by simp), if_neg (by simp), if_pos rfl]
theorem btw_t {n lo hi : Int} (h : lo ≤ n ∧ n ≤ hi) : btw n lo hi = true := by simp [btw, h]

set_option maxHeartbeats 1000000 in
set_option maxRecDepth 100000 in
theorem Refuse_W0 (a0 a1 a2 a3 a4 a5 a6 W H M Qu I C : Int) (g0 : 0 ≤ a0 ∧ a0 ≤ 65535) (g1 : 0 ≤ a1 ∧ a1 ≤ 65535) (g2 : 0 ≤ a2 ∧ a2 ≤ 255) (g3 : 0 ≤ a3 ∧ a3 ≤ 255) (g4 : 0 ≤ a4 ∧ a4 ≤ 255) (g5 : 0 ≤ a5 ∧ a5 ≤ 255) (g6 : 0 ≤ a6 ∧ a6 ≤ 255)
    (eW : 1 + a0 % 200 = W) (eH : 1 + a1 % 200 = H) (eM : 1 + a2 % 4 = M) (eQ : 1 + a3 % 100 = Qu) (eI : 1 + a4 % 9 = I) (eC : a5 % 4 = C) (hr : a6 % 6 = 0)
    (hW : 1 ≤ W ∧ W ≤ 200) (hH : 1 ≤ H ∧ H ≤ 200) (hM : 1 ≤ M ∧ M ≤ 4) (hQ : 1 ≤ Qu ∧ Qu ≤ 100) (hI : 1 ≤ I ∧ I ≤ 9) (hC : 0 ≤ C ∧ C ≤ 3) (w : World) :
    Calls Try.prog 6 #[.int .u16 a0, .int .u16 a1, .int .u8 a2, .int .u8 a3, .int .u8 a4, .int .u8 a5, .int .u8 a6, .bool false] w fun e w' => e = .returned (.bool true) ∧ Ext w w' := by
  have k1 := ck_S (W := 0) (H := H) (M := M) (Qu := Qu) (I := I) (C := C) (.inl rfl)
  have k2 := ck_S (W := 0) (H := H) (M := M) (Qu := Qu) (I := I) (C := -1) (.inl rfl)
  have k3 : checkV 65535 65535 0 0 0 0 = 15 := by decide
  go_enter Try.func6, Try.ntmps6
  go_wp2_with (first | (go_at_call 41; refine (known14_any _).mono ?_; intro e w1 h; have he := h.1; have hE := h.2; clear h; subst he; have hc1 := hE.cells (w.heap.size + 2) (by first | omega | (simp; done) | (simp; omega)); have hf1 := hE.marks (w.heap.size + 2) (by first | omega | (simp; done) | (simp; omega)); have hs1 := hE.sizes (w.heap.size + 2) (by first | omega | (simp; done) | (simp; omega)); have hg1 := hE.rules.1; have hh1 := hE.rules.2; have hl1_0 : w.heap.size < w1.heap.size := (by omega); have hl1_1 : w.heap.size + 1 < w1.heap.size := (by omega)) | (go_at_call 47; refine (Check_any _ _ _ _ _ _ _).mono ?_; intro e w1 h; have he := h.1; have hE := h.2; clear h; subst he; have hc1 := hE.cells (w.heap.size + 2) (by first | omega | (simp; done) | (simp; omega)); have hf1 := hE.marks (w.heap.size + 2) (by first | omega | (simp; done) | (simp; omega)); have hs1 := hE.sizes (w.heap.size + 2) (by first | omega | (simp; done) | (simp; omega)); have hg1 := hE.rules.1; have hh1 := hE.rules.2; have hl1_0 : w.heap.size < w1.heap.size := (by omega); have hl1_1 : w.heap.size + 1 < w1.heap.size := (by omega)))
  go_ret
  exact ⟨rfl, by (repeat' (first | exact Ext.refl _ | assumption | refine Ext.alloc' ?_ _ | (refine Ext.set' ?_ (by first | omega | (simp; done) | (simp; omega)) _) | refine Ext.drew' ?_ | refine Ext.drewN' ?_ _ | refine Ext.trans ?_ (by assumption)))⟩
set_option maxHeartbeats 1000000 in
set_option maxRecDepth 100000 in
theorem Refuse_H0 (a0 a1 a2 a3 a4 a5 a6 W H M Qu I C : Int) (g0 : 0 ≤ a0 ∧ a0 ≤ 65535) (g1 : 0 ≤ a1 ∧ a1 ≤ 65535) (g2 : 0 ≤ a2 ∧ a2 ≤ 255) (g3 : 0 ≤ a3 ∧ a3 ≤ 255) (g4 : 0 ≤ a4 ∧ a4 ≤ 255) (g5 : 0 ≤ a5 ∧ a5 ≤ 255) (g6 : 0 ≤ a6 ∧ a6 ≤ 255)
    (eW : 1 + a0 % 200 = W) (eH : 1 + a1 % 200 = H) (eM : 1 + a2 % 4 = M) (eQ : 1 + a3 % 100 = Qu) (eI : 1 + a4 % 9 = I) (eC : a5 % 4 = C) (hr : a6 % 6 = 1)
    (hW : 1 ≤ W ∧ W ≤ 200) (hH : 1 ≤ H ∧ H ≤ 200) (hM : 1 ≤ M ∧ M ≤ 4) (hQ : 1 ≤ Qu ∧ Qu ≤ 100) (hI : 1 ≤ I ∧ I ≤ 9) (hC : 0 ≤ C ∧ C ≤ 3) (w : World) :
    Calls Try.prog 6 #[.int .u16 a0, .int .u16 a1, .int .u8 a2, .int .u8 a3, .int .u8 a4, .int .u8 a5, .int .u8 a6, .bool false] w fun e w' => e = .returned (.bool true) ∧ Ext w w' := by
  have k1 := ck_S (W := W) (H := 0) (M := M) (Qu := Qu) (I := I) (C := C) (.inr rfl)
  have k2 := ck_S (W := W) (H := 0) (M := M) (Qu := Qu) (I := I) (C := -1) (.inr rfl)
  have k3 : checkV 65535 65535 0 0 0 0 = 15 := by decide
  go_enter Try.func6, Try.ntmps6
  go_wp2_with (first | (go_at_call 41; refine (known14_any _).mono ?_; intro e w1 h; have he := h.1; have hE := h.2; clear h; subst he; have hc1 := hE.cells (w.heap.size + 2) (by first | omega | (simp; done) | (simp; omega)); have hf1 := hE.marks (w.heap.size + 2) (by first | omega | (simp; done) | (simp; omega)); have hs1 := hE.sizes (w.heap.size + 2) (by first | omega | (simp; done) | (simp; omega)); have hg1 := hE.rules.1; have hh1 := hE.rules.2; have hl1_0 : w.heap.size < w1.heap.size := (by omega); have hl1_1 : w.heap.size + 1 < w1.heap.size := (by omega)) | (go_at_call 47; refine (Check_any _ _ _ _ _ _ _).mono ?_; intro e w1 h; have he := h.1; have hE := h.2; clear h; subst he; have hc1 := hE.cells (w.heap.size + 2) (by first | omega | (simp; done) | (simp; omega)); have hf1 := hE.marks (w.heap.size + 2) (by first | omega | (simp; done) | (simp; omega)); have hs1 := hE.sizes (w.heap.size + 2) (by first | omega | (simp; done) | (simp; omega)); have hg1 := hE.rules.1; have hh1 := hE.rules.2; have hl1_0 : w.heap.size < w1.heap.size := (by omega); have hl1_1 : w.heap.size + 1 < w1.heap.size := (by omega)))
  go_ret
  exact ⟨rfl, by (repeat' (first | exact Ext.refl _ | assumption | refine Ext.alloc' ?_ _ | (refine Ext.set' ?_ (by first | omega | (simp; done) | (simp; omega)) _) | refine Ext.drew' ?_ | refine Ext.drewN' ?_ _ | refine Ext.trans ?_ (by assumption)))⟩
set_option maxHeartbeats 1000000 in
set_option maxRecDepth 100000 in
theorem Refuse_M0 (a0 a1 a2 a3 a4 a5 a6 W H M Qu I C : Int) (g0 : 0 ≤ a0 ∧ a0 ≤ 65535) (g1 : 0 ≤ a1 ∧ a1 ≤ 65535) (g2 : 0 ≤ a2 ∧ a2 ≤ 255) (g3 : 0 ≤ a3 ∧ a3 ≤ 255) (g4 : 0 ≤ a4 ∧ a4 ≤ 255) (g5 : 0 ≤ a5 ∧ a5 ≤ 255) (g6 : 0 ≤ a6 ∧ a6 ≤ 255)
    (eW : 1 + a0 % 200 = W) (eH : 1 + a1 % 200 = H) (eM : 1 + a2 % 4 = M) (eQ : 1 + a3 % 100 = Qu) (eI : 1 + a4 % 9 = I) (eC : a5 % 4 = C) (hr : a6 % 6 = 2)
    (hW : 1 ≤ W ∧ W ≤ 200) (hH : 1 ≤ H ∧ H ≤ 200) (hM : 1 ≤ M ∧ M ≤ 4) (hQ : 1 ≤ Qu ∧ Qu ≤ 100) (hI : 1 ≤ I ∧ I ≤ 9) (hC : 0 ≤ C ∧ C ≤ 3) (w : World) :
    Calls Try.prog 6 #[.int .u16 a0, .int .u16 a1, .int .u8 a2, .int .u8 a3, .int .u8 a4, .int .u8 a5, .int .u8 a6, .bool false] w fun e w' => e = .returned (.bool true) ∧ Ext w w' := by
  have k1 := ck_M (W := W) (H := H) (M := 0) (Qu := Qu) (I := I) (C := C) hW hH rfl
  have k2 := ck_M (W := W) (H := H) (M := 0) (Qu := Qu) (I := I) (C := -1) hW hH rfl
  have k3 : checkV 65535 65535 0 0 0 0 = 15 := by decide
  go_enter Try.func6, Try.ntmps6
  go_wp2_with (first | (go_at_call 41; refine (known14_any _).mono ?_; intro e w1 h; have he := h.1; have hE := h.2; clear h; subst he; have hc1 := hE.cells (w.heap.size + 2) (by first | omega | (simp; done) | (simp; omega)); have hf1 := hE.marks (w.heap.size + 2) (by first | omega | (simp; done) | (simp; omega)); have hs1 := hE.sizes (w.heap.size + 2) (by first | omega | (simp; done) | (simp; omega)); have hg1 := hE.rules.1; have hh1 := hE.rules.2; have hl1_0 : w.heap.size < w1.heap.size := (by omega); have hl1_1 : w.heap.size + 1 < w1.heap.size := (by omega)) | (go_at_call 47; refine (Check_any _ _ _ _ _ _ _).mono ?_; intro e w1 h; have he := h.1; have hE := h.2; clear h; subst he; have hc1 := hE.cells (w.heap.size + 2) (by first | omega | (simp; done) | (simp; omega)); have hf1 := hE.marks (w.heap.size + 2) (by first | omega | (simp; done) | (simp; omega)); have hs1 := hE.sizes (w.heap.size + 2) (by first | omega | (simp; done) | (simp; omega)); have hg1 := hE.rules.1; have hh1 := hE.rules.2; have hl1_0 : w.heap.size < w1.heap.size := (by omega); have hl1_1 : w.heap.size + 1 < w1.heap.size := (by omega)))
  go_ret
  exact ⟨rfl, by (repeat' (first | exact Ext.refl _ | assumption | refine Ext.alloc' ?_ _ | (refine Ext.set' ?_ (by first | omega | (simp; done) | (simp; omega)) _) | refine Ext.drew' ?_ | refine Ext.drewN' ?_ _ | refine Ext.trans ?_ (by assumption)))⟩
set_option maxHeartbeats 1000000 in
set_option maxRecDepth 100000 in
theorem Refuse_Q0 (a0 a1 a2 a3 a4 a5 a6 W H M Qu I C : Int) (g0 : 0 ≤ a0 ∧ a0 ≤ 65535) (g1 : 0 ≤ a1 ∧ a1 ≤ 65535) (g2 : 0 ≤ a2 ∧ a2 ≤ 255) (g3 : 0 ≤ a3 ∧ a3 ≤ 255) (g4 : 0 ≤ a4 ∧ a4 ≤ 255) (g5 : 0 ≤ a5 ∧ a5 ≤ 255) (g6 : 0 ≤ a6 ∧ a6 ≤ 255)
    (eW : 1 + a0 % 200 = W) (eH : 1 + a1 % 200 = H) (eM : 1 + a2 % 4 = M) (eQ : 1 + a3 % 100 = Qu) (eI : 1 + a4 % 9 = I) (eC : a5 % 4 = C) (hr : a6 % 6 = 3)
    (hW : 1 ≤ W ∧ W ≤ 200) (hH : 1 ≤ H ∧ H ≤ 200) (hM : 1 ≤ M ∧ M ≤ 4) (hQ : 1 ≤ Qu ∧ Qu ≤ 100) (hI : 1 ≤ I ∧ I ≤ 9) (hC : 0 ≤ C ∧ C ≤ 3) (w : World) :
    Calls Try.prog 6 #[.int .u16 a0, .int .u16 a1, .int .u8 a2, .int .u8 a3, .int .u8 a4, .int .u8 a5, .int .u8 a6, .bool false] w fun e w' => e = .returned (.bool true) ∧ Ext w w' := by
  have k1 := ck_Q (W := W) (H := H) (M := M) (Qu := 0) (I := I) (C := C) hW hH (btw_t hM) rfl
  have k2 := ck_Q (W := W) (H := H) (M := M) (Qu := 0) (I := I) (C := -1) hW hH (btw_t hM) rfl
  have k3 : checkV 65535 65535 0 0 0 0 = 15 := by decide
  go_enter Try.func6, Try.ntmps6
  go_wp2_with (first | (go_at_call 41; refine (known14_any _).mono ?_; intro e w1 h; have he := h.1; have hE := h.2; clear h; subst he; have hc1 := hE.cells (w.heap.size + 2) (by first | omega | (simp; done) | (simp; omega)); have hf1 := hE.marks (w.heap.size + 2) (by first | omega | (simp; done) | (simp; omega)); have hs1 := hE.sizes (w.heap.size + 2) (by first | omega | (simp; done) | (simp; omega)); have hg1 := hE.rules.1; have hh1 := hE.rules.2; have hl1_0 : w.heap.size < w1.heap.size := (by omega); have hl1_1 : w.heap.size + 1 < w1.heap.size := (by omega)) | (go_at_call 47; refine (Check_any _ _ _ _ _ _ _).mono ?_; intro e w1 h; have he := h.1; have hE := h.2; clear h; subst he; have hc1 := hE.cells (w.heap.size + 2) (by first | omega | (simp; done) | (simp; omega)); have hf1 := hE.marks (w.heap.size + 2) (by first | omega | (simp; done) | (simp; omega)); have hs1 := hE.sizes (w.heap.size + 2) (by first | omega | (simp; done) | (simp; omega)); have hg1 := hE.rules.1; have hh1 := hE.rules.2; have hl1_0 : w.heap.size < w1.heap.size := (by omega); have hl1_1 : w.heap.size + 1 < w1.heap.size := (by omega)))
  go_ret
  exact ⟨rfl, by (repeat' (first | exact Ext.refl _ | assumption | refine Ext.alloc' ?_ _ | (refine Ext.set' ?_ (by first | omega | (simp; done) | (simp; omega)) _) | refine Ext.drew' ?_ | refine Ext.drewN' ?_ _ | refine Ext.trans ?_ (by assumption)))⟩
set_option maxHeartbeats 1000000 in
set_option maxRecDepth 100000 in
theorem Refuse_I0 (a0 a1 a2 a3 a4 a5 a6 W H M Qu I C : Int) (g0 : 0 ≤ a0 ∧ a0 ≤ 65535) (g1 : 0 ≤ a1 ∧ a1 ≤ 65535) (g2 : 0 ≤ a2 ∧ a2 ≤ 255) (g3 : 0 ≤ a3 ∧ a3 ≤ 255) (g4 : 0 ≤ a4 ∧ a4 ≤ 255) (g5 : 0 ≤ a5 ∧ a5 ≤ 255) (g6 : 0 ≤ a6 ∧ a6 ≤ 255)
    (eW : 1 + a0 % 200 = W) (eH : 1 + a1 % 200 = H) (eM : 1 + a2 % 4 = M) (eQ : 1 + a3 % 100 = Qu) (eI : 1 + a4 % 9 = I) (eC : a5 % 4 = C) (hr : a6 % 6 = 4)
    (hW : 1 ≤ W ∧ W ≤ 200) (hH : 1 ≤ H ∧ H ≤ 200) (hM : 1 ≤ M ∧ M ≤ 4) (hQ : 1 ≤ Qu ∧ Qu ≤ 100) (hI : 1 ≤ I ∧ I ≤ 9) (hC : 0 ≤ C ∧ C ≤ 3) (w : World) :
    Calls Try.prog 6 #[.int .u16 a0, .int .u16 a1, .int .u8 a2, .int .u8 a3, .int .u8 a4, .int .u8 a5, .int .u8 a6, .bool false] w fun e w' => e = .returned (.bool true) ∧ Ext w w' := by
  have k1 := ck_I (W := W) (H := H) (M := M) (Qu := Qu) (I := 0) (C := C) hW hH (btw_t hM) (btw_t hQ) rfl
  have k2 := ck_I (W := W) (H := H) (M := M) (Qu := Qu) (I := 0) (C := -1) hW hH (btw_t hM) (btw_t hQ) rfl
  have k3 : checkV 65535 65535 0 0 0 0 = 15 := by decide
  go_enter Try.func6, Try.ntmps6
  go_wp2_with (first | (go_at_call 41; refine (known14_any _).mono ?_; intro e w1 h; have he := h.1; have hE := h.2; clear h; subst he; have hc1 := hE.cells (w.heap.size + 2) (by first | omega | (simp; done) | (simp; omega)); have hf1 := hE.marks (w.heap.size + 2) (by first | omega | (simp; done) | (simp; omega)); have hs1 := hE.sizes (w.heap.size + 2) (by first | omega | (simp; done) | (simp; omega)); have hg1 := hE.rules.1; have hh1 := hE.rules.2; have hl1_0 : w.heap.size < w1.heap.size := (by omega); have hl1_1 : w.heap.size + 1 < w1.heap.size := (by omega)) | (go_at_call 47; refine (Check_any _ _ _ _ _ _ _).mono ?_; intro e w1 h; have he := h.1; have hE := h.2; clear h; subst he; have hc1 := hE.cells (w.heap.size + 2) (by first | omega | (simp; done) | (simp; omega)); have hf1 := hE.marks (w.heap.size + 2) (by first | omega | (simp; done) | (simp; omega)); have hs1 := hE.sizes (w.heap.size + 2) (by first | omega | (simp; done) | (simp; omega)); have hg1 := hE.rules.1; have hh1 := hE.rules.2; have hl1_0 : w.heap.size < w1.heap.size := (by omega); have hl1_1 : w.heap.size + 1 < w1.heap.size := (by omega)))
  go_ret
  exact ⟨rfl, by (repeat' (first | exact Ext.refl _ | assumption | refine Ext.alloc' ?_ _ | (refine Ext.set' ?_ (by first | omega | (simp; done) | (simp; omega)) _) | refine Ext.drew' ?_ | refine Ext.drewN' ?_ _ | refine Ext.trans ?_ (by assumption)))⟩
set_option maxHeartbeats 1000000 in
set_option maxRecDepth 100000 in
theorem Refuse_C0 (a0 a1 a2 a3 a4 a5 a6 W H M Qu I C : Int) (g0 : 0 ≤ a0 ∧ a0 ≤ 65535) (g1 : 0 ≤ a1 ∧ a1 ≤ 65535) (g2 : 0 ≤ a2 ∧ a2 ≤ 255) (g3 : 0 ≤ a3 ∧ a3 ≤ 255) (g4 : 0 ≤ a4 ∧ a4 ≤ 255) (g5 : 0 ≤ a5 ∧ a5 ≤ 255) (g6 : 0 ≤ a6 ∧ a6 ≤ 255)
    (eW : 1 + a0 % 200 = W) (eH : 1 + a1 % 200 = H) (eM : 1 + a2 % 4 = M) (eQ : 1 + a3 % 100 = Qu) (eI : 1 + a4 % 9 = I) (eC : a5 % 4 = C) (hr : a6 % 6 = 5)
    (hW : 1 ≤ W ∧ W ≤ 200) (hH : 1 ≤ H ∧ H ≤ 200) (hM : 1 ≤ M ∧ M ≤ 4) (hQ : 1 ≤ Qu ∧ Qu ≤ 100) (hI : 1 ≤ I ∧ I ≤ 9) (hC : 0 ≤ C ∧ C ≤ 3) (w : World) :
    Calls Try.prog 6 #[.int .u16 a0, .int .u16 a1, .int .u8 a2, .int .u8 a3, .int .u8 a4, .int .u8 a5, .int .u8 a6, .bool false] w fun e w' => e = .returned (.bool true) ∧ Ext w w' := by
  have k1 := ck_C (W := W) (H := H) (M := M) (Qu := Qu) (I := I) (C := -1) hW hH (btw_t hM) (btw_t hQ) (btw_t (by omega)) rfl
  have k2 := ck_C (W := W) (H := H) (M := M) (Qu := Qu) (I := I) (C := -1) hW hH (btw_t hM) (btw_t hQ) (btw_t (by omega)) rfl
  have k3 : checkV 65535 65535 0 0 0 0 = 15 := by decide
  go_enter Try.func6, Try.ntmps6
  go_wp2_with (first | (go_at_call 41; refine (known14_any _).mono ?_; intro e w1 h; have he := h.1; have hE := h.2; clear h; subst he; have hc1 := hE.cells (w.heap.size + 2) (by first | omega | (simp; done) | (simp; omega)); have hf1 := hE.marks (w.heap.size + 2) (by first | omega | (simp; done) | (simp; omega)); have hs1 := hE.sizes (w.heap.size + 2) (by first | omega | (simp; done) | (simp; omega)); have hg1 := hE.rules.1; have hh1 := hE.rules.2; have hl1_0 : w.heap.size < w1.heap.size := (by omega); have hl1_1 : w.heap.size + 1 < w1.heap.size := (by omega)) | (go_at_call 47; refine (Check_any _ _ _ _ _ _ _).mono ?_; intro e w1 h; have he := h.1; have hE := h.2; clear h; subst he; have hc1 := hE.cells (w.heap.size + 2) (by first | omega | (simp; done) | (simp; omega)); have hf1 := hE.marks (w.heap.size + 2) (by first | omega | (simp; done) | (simp; omega)); have hs1 := hE.sizes (w.heap.size + 2) (by first | omega | (simp; done) | (simp; omega)); have hg1 := hE.rules.1; have hh1 := hE.rules.2; have hl1_0 : w.heap.size < w1.heap.size := (by omega); have hl1_1 : w.heap.size + 1 < w1.heap.size := (by omega)))
  go_ret
  exact ⟨rfl, by (repeat' (first | exact Ext.refl _ | assumption | refine Ext.alloc' ?_ _ | (refine Ext.set' ?_ (by first | omega | (simp; done) | (simp; omega)) _) | refine Ext.drew' ?_ | refine Ext.drewN' ?_ _ | refine Ext.trans ?_ (by assumption)))⟩
set_option maxHeartbeats 1000000 in
set_option maxRecDepth 100000 in
theorem Refuse_W1 (a0 a1 a2 a3 a4 a5 a6 W H M Qu I C : Int) (g0 : 0 ≤ a0 ∧ a0 ≤ 65535) (g1 : 0 ≤ a1 ∧ a1 ≤ 65535) (g2 : 0 ≤ a2 ∧ a2 ≤ 255) (g3 : 0 ≤ a3 ∧ a3 ≤ 255) (g4 : 0 ≤ a4 ∧ a4 ≤ 255) (g5 : 0 ≤ a5 ∧ a5 ≤ 255) (g6 : 0 ≤ a6 ∧ a6 ≤ 255)
    (eW : 1 + a0 % 200 = W) (eH : 1 + a1 % 200 = H) (eM : 1 + a2 % 4 = M) (eQ : 1 + a3 % 100 = Qu) (eI : 1 + a4 % 9 = I) (eC : a5 % 4 = C) (hr : a6 % 6 = 0)
    (hW : 1 ≤ W ∧ W ≤ 200) (hH : 1 ≤ H ∧ H ≤ 200) (hM : 1 ≤ M ∧ M ≤ 4) (hQ : 1 ≤ Qu ∧ Qu ≤ 100) (hI : 1 ≤ I ∧ I ≤ 9) (hC : 0 ≤ C ∧ C ≤ 3) (w : World) :
    Calls Try.prog 6 #[.int .u16 a0, .int .u16 a1, .int .u8 a2, .int .u8 a3, .int .u8 a4, .int .u8 a5, .int .u8 a6, .bool true] w fun e w' => e = .returned (.bool true) ∧ Ext w w' := by
  have k1 := ck_S (W := 65536) (H := H) (M := M) (Qu := Qu) (I := I) (C := C) (.inl rfl)
  have k2 := ck_S (W := 65536) (H := H) (M := M) (Qu := Qu) (I := I) (C := -1) (.inl rfl)
  have k3 : checkV 65535 65535 0 0 0 0 = 15 := by decide
  go_enter Try.func6, Try.ntmps6
  go_wp2_with (first | (go_at_call 41; refine (known14_any _).mono ?_; intro e w1 h; have he := h.1; have hE := h.2; clear h; subst he; have hc1 := hE.cells (w.heap.size + 2) (by first | omega | (simp; done) | (simp; omega)); have hf1 := hE.marks (w.heap.size + 2) (by first | omega | (simp; done) | (simp; omega)); have hs1 := hE.sizes (w.heap.size + 2) (by first | omega | (simp; done) | (simp; omega)); have hg1 := hE.rules.1; have hh1 := hE.rules.2; have hl1_0 : w.heap.size < w1.heap.size := (by omega); have hl1_1 : w.heap.size + 1 < w1.heap.size := (by omega)) | (go_at_call 47; refine (Check_any _ _ _ _ _ _ _).mono ?_; intro e w1 h; have he := h.1; have hE := h.2; clear h; subst he; have hc1 := hE.cells (w.heap.size + 2) (by first | omega | (simp; done) | (simp; omega)); have hf1 := hE.marks (w.heap.size + 2) (by first | omega | (simp; done) | (simp; omega)); have hs1 := hE.sizes (w.heap.size + 2) (by first | omega | (simp; done) | (simp; omega)); have hg1 := hE.rules.1; have hh1 := hE.rules.2; have hl1_0 : w.heap.size < w1.heap.size := (by omega); have hl1_1 : w.heap.size + 1 < w1.heap.size := (by omega)))
  go_ret
  exact ⟨rfl, by (repeat' (first | exact Ext.refl _ | assumption | refine Ext.alloc' ?_ _ | (refine Ext.set' ?_ (by first | omega | (simp; done) | (simp; omega)) _) | refine Ext.drew' ?_ | refine Ext.drewN' ?_ _ | refine Ext.trans ?_ (by assumption)))⟩
set_option maxHeartbeats 1000000 in
set_option maxRecDepth 100000 in
theorem Refuse_H1 (a0 a1 a2 a3 a4 a5 a6 W H M Qu I C : Int) (g0 : 0 ≤ a0 ∧ a0 ≤ 65535) (g1 : 0 ≤ a1 ∧ a1 ≤ 65535) (g2 : 0 ≤ a2 ∧ a2 ≤ 255) (g3 : 0 ≤ a3 ∧ a3 ≤ 255) (g4 : 0 ≤ a4 ∧ a4 ≤ 255) (g5 : 0 ≤ a5 ∧ a5 ≤ 255) (g6 : 0 ≤ a6 ∧ a6 ≤ 255)
    (eW : 1 + a0 % 200 = W) (eH : 1 + a1 % 200 = H) (eM : 1 + a2 % 4 = M) (eQ : 1 + a3 % 100 = Qu) (eI : 1 + a4 % 9 = I) (eC : a5 % 4 = C) (hr : a6 % 6 = 1)
    (hW : 1 ≤ W ∧ W ≤ 200) (hH : 1 ≤ H ∧ H ≤ 200) (hM : 1 ≤ M ∧ M ≤ 4) (hQ : 1 ≤ Qu ∧ Qu ≤ 100) (hI : 1 ≤ I ∧ I ≤ 9) (hC : 0 ≤ C ∧ C ≤ 3) (w : World) :
    Calls Try.prog 6 #[.int .u16 a0, .int .u16 a1, .int .u8 a2, .int .u8 a3, .int .u8 a4, .int .u8 a5, .int .u8 a6, .bool true] w fun e w' => e = .returned (.bool true) ∧ Ext w w' := by
  have k1 := ck_S (W := W) (H := 65536) (M := M) (Qu := Qu) (I := I) (C := C) (.inr rfl)
  have k2 := ck_S (W := W) (H := 65536) (M := M) (Qu := Qu) (I := I) (C := -1) (.inr rfl)
  have k3 : checkV 65535 65535 0 0 0 0 = 15 := by decide
  go_enter Try.func6, Try.ntmps6
  go_wp2_with (first | (go_at_call 41; refine (known14_any _).mono ?_; intro e w1 h; have he := h.1; have hE := h.2; clear h; subst he; have hc1 := hE.cells (w.heap.size + 2) (by first | omega | (simp; done) | (simp; omega)); have hf1 := hE.marks (w.heap.size + 2) (by first | omega | (simp; done) | (simp; omega)); have hs1 := hE.sizes (w.heap.size + 2) (by first | omega | (simp; done) | (simp; omega)); have hg1 := hE.rules.1; have hh1 := hE.rules.2; have hl1_0 : w.heap.size < w1.heap.size := (by omega); have hl1_1 : w.heap.size + 1 < w1.heap.size := (by omega)) | (go_at_call 47; refine (Check_any _ _ _ _ _ _ _).mono ?_; intro e w1 h; have he := h.1; have hE := h.2; clear h; subst he; have hc1 := hE.cells (w.heap.size + 2) (by first | omega | (simp; done) | (simp; omega)); have hf1 := hE.marks (w.heap.size + 2) (by first | omega | (simp; done) | (simp; omega)); have hs1 := hE.sizes (w.heap.size + 2) (by first | omega | (simp; done) | (simp; omega)); have hg1 := hE.rules.1; have hh1 := hE.rules.2; have hl1_0 : w.heap.size < w1.heap.size := (by omega); have hl1_1 : w.heap.size + 1 < w1.heap.size := (by omega)))
  go_ret
  exact ⟨rfl, by (repeat' (first | exact Ext.refl _ | assumption | refine Ext.alloc' ?_ _ | (refine Ext.set' ?_ (by first | omega | (simp; done) | (simp; omega)) _) | refine Ext.drew' ?_ | refine Ext.drewN' ?_ _ | refine Ext.trans ?_ (by assumption)))⟩
set_option maxHeartbeats 1000000 in
set_option maxRecDepth 100000 in
theorem Refuse_M1 (a0 a1 a2 a3 a4 a5 a6 W H M Qu I C : Int) (g0 : 0 ≤ a0 ∧ a0 ≤ 65535) (g1 : 0 ≤ a1 ∧ a1 ≤ 65535) (g2 : 0 ≤ a2 ∧ a2 ≤ 255) (g3 : 0 ≤ a3 ∧ a3 ≤ 255) (g4 : 0 ≤ a4 ∧ a4 ≤ 255) (g5 : 0 ≤ a5 ∧ a5 ≤ 255) (g6 : 0 ≤ a6 ∧ a6 ≤ 255)
    (eW : 1 + a0 % 200 = W) (eH : 1 + a1 % 200 = H) (eM : 1 + a2 % 4 = M) (eQ : 1 + a3 % 100 = Qu) (eI : 1 + a4 % 9 = I) (eC : a5 % 4 = C) (hr : a6 % 6 = 2)
    (hW : 1 ≤ W ∧ W ≤ 200) (hH : 1 ≤ H ∧ H ≤ 200) (hM : 1 ≤ M ∧ M ≤ 4) (hQ : 1 ≤ Qu ∧ Qu ≤ 100) (hI : 1 ≤ I ∧ I ≤ 9) (hC : 0 ≤ C ∧ C ≤ 3) (w : World) :
    Calls Try.prog 6 #[.int .u16 a0, .int .u16 a1, .int .u8 a2, .int .u8 a3, .int .u8 a4, .int .u8 a5, .int .u8 a6, .bool true] w fun e w' => e = .returned (.bool true) ∧ Ext w w' := by
  have k1 := ck_M (W := W) (H := H) (M := 65536) (Qu := Qu) (I := I) (C := C) hW hH rfl
  have k2 := ck_M (W := W) (H := H) (M := 65536) (Qu := Qu) (I := I) (C := -1) hW hH rfl
  have k3 : checkV 65535 65535 0 0 0 0 = 15 := by decide
  go_enter Try.func6, Try.ntmps6
  go_wp2_with (first | (go_at_call 41; refine (known14_any _).mono ?_; intro e w1 h; have he := h.1; have hE := h.2; clear h; subst he; have hc1 := hE.cells (w.heap.size + 2) (by first | omega | (simp; done) | (simp; omega)); have hf1 := hE.marks (w.heap.size + 2) (by first | omega | (simp; done) | (simp; omega)); have hs1 := hE.sizes (w.heap.size + 2) (by first | omega | (simp; done) | (simp; omega)); have hg1 := hE.rules.1; have hh1 := hE.rules.2; have hl1_0 : w.heap.size < w1.heap.size := (by omega); have hl1_1 : w.heap.size + 1 < w1.heap.size := (by omega)) | (go_at_call 47; refine (Check_any _ _ _ _ _ _ _).mono ?_; intro e w1 h; have he := h.1; have hE := h.2; clear h; subst he; have hc1 := hE.cells (w.heap.size + 2) (by first | omega | (simp; done) | (simp; omega)); have hf1 := hE.marks (w.heap.size + 2) (by first | omega | (simp; done) | (simp; omega)); have hs1 := hE.sizes (w.heap.size + 2) (by first | omega | (simp; done) | (simp; omega)); have hg1 := hE.rules.1; have hh1 := hE.rules.2; have hl1_0 : w.heap.size < w1.heap.size := (by omega); have hl1_1 : w.heap.size + 1 < w1.heap.size := (by omega)))
  go_ret
  exact ⟨rfl, by (repeat' (first | exact Ext.refl _ | assumption | refine Ext.alloc' ?_ _ | (refine Ext.set' ?_ (by first | omega | (simp; done) | (simp; omega)) _) | refine Ext.drew' ?_ | refine Ext.drewN' ?_ _ | refine Ext.trans ?_ (by assumption)))⟩
set_option maxHeartbeats 1000000 in
set_option maxRecDepth 100000 in
theorem Refuse_Q1 (a0 a1 a2 a3 a4 a5 a6 W H M Qu I C : Int) (g0 : 0 ≤ a0 ∧ a0 ≤ 65535) (g1 : 0 ≤ a1 ∧ a1 ≤ 65535) (g2 : 0 ≤ a2 ∧ a2 ≤ 255) (g3 : 0 ≤ a3 ∧ a3 ≤ 255) (g4 : 0 ≤ a4 ∧ a4 ≤ 255) (g5 : 0 ≤ a5 ∧ a5 ≤ 255) (g6 : 0 ≤ a6 ∧ a6 ≤ 255)
    (eW : 1 + a0 % 200 = W) (eH : 1 + a1 % 200 = H) (eM : 1 + a2 % 4 = M) (eQ : 1 + a3 % 100 = Qu) (eI : 1 + a4 % 9 = I) (eC : a5 % 4 = C) (hr : a6 % 6 = 3)
    (hW : 1 ≤ W ∧ W ≤ 200) (hH : 1 ≤ H ∧ H ≤ 200) (hM : 1 ≤ M ∧ M ≤ 4) (hQ : 1 ≤ Qu ∧ Qu ≤ 100) (hI : 1 ≤ I ∧ I ≤ 9) (hC : 0 ≤ C ∧ C ≤ 3) (w : World) :
    Calls Try.prog 6 #[.int .u16 a0, .int .u16 a1, .int .u8 a2, .int .u8 a3, .int .u8 a4, .int .u8 a5, .int .u8 a6, .bool true] w fun e w' => e = .returned (.bool true) ∧ Ext w w' := by
  have k1 := ck_Q (W := W) (H := H) (M := M) (Qu := 65536) (I := I) (C := C) hW hH (btw_t hM) rfl
  have k2 := ck_Q (W := W) (H := H) (M := M) (Qu := 65536) (I := I) (C := -1) hW hH (btw_t hM) rfl
  have k3 : checkV 65535 65535 0 0 0 0 = 15 := by decide
  go_enter Try.func6, Try.ntmps6
  go_wp2_with (first | (go_at_call 41; refine (known14_any _).mono ?_; intro e w1 h; have he := h.1; have hE := h.2; clear h; subst he; have hc1 := hE.cells (w.heap.size + 2) (by first | omega | (simp; done) | (simp; omega)); have hf1 := hE.marks (w.heap.size + 2) (by first | omega | (simp; done) | (simp; omega)); have hs1 := hE.sizes (w.heap.size + 2) (by first | omega | (simp; done) | (simp; omega)); have hg1 := hE.rules.1; have hh1 := hE.rules.2; have hl1_0 : w.heap.size < w1.heap.size := (by omega); have hl1_1 : w.heap.size + 1 < w1.heap.size := (by omega)) | (go_at_call 47; refine (Check_any _ _ _ _ _ _ _).mono ?_; intro e w1 h; have he := h.1; have hE := h.2; clear h; subst he; have hc1 := hE.cells (w.heap.size + 2) (by first | omega | (simp; done) | (simp; omega)); have hf1 := hE.marks (w.heap.size + 2) (by first | omega | (simp; done) | (simp; omega)); have hs1 := hE.sizes (w.heap.size + 2) (by first | omega | (simp; done) | (simp; omega)); have hg1 := hE.rules.1; have hh1 := hE.rules.2; have hl1_0 : w.heap.size < w1.heap.size := (by omega); have hl1_1 : w.heap.size + 1 < w1.heap.size := (by omega)))
  go_ret
  exact ⟨rfl, by (repeat' (first | exact Ext.refl _ | assumption | refine Ext.alloc' ?_ _ | (refine Ext.set' ?_ (by first | omega | (simp; done) | (simp; omega)) _) | refine Ext.drew' ?_ | refine Ext.drewN' ?_ _ | refine Ext.trans ?_ (by assumption)))⟩
set_option maxHeartbeats 1000000 in
set_option maxRecDepth 100000 in
theorem Refuse_I1 (a0 a1 a2 a3 a4 a5 a6 W H M Qu I C : Int) (g0 : 0 ≤ a0 ∧ a0 ≤ 65535) (g1 : 0 ≤ a1 ∧ a1 ≤ 65535) (g2 : 0 ≤ a2 ∧ a2 ≤ 255) (g3 : 0 ≤ a3 ∧ a3 ≤ 255) (g4 : 0 ≤ a4 ∧ a4 ≤ 255) (g5 : 0 ≤ a5 ∧ a5 ≤ 255) (g6 : 0 ≤ a6 ∧ a6 ≤ 255)
    (eW : 1 + a0 % 200 = W) (eH : 1 + a1 % 200 = H) (eM : 1 + a2 % 4 = M) (eQ : 1 + a3 % 100 = Qu) (eI : 1 + a4 % 9 = I) (eC : a5 % 4 = C) (hr : a6 % 6 = 4)
    (hW : 1 ≤ W ∧ W ≤ 200) (hH : 1 ≤ H ∧ H ≤ 200) (hM : 1 ≤ M ∧ M ≤ 4) (hQ : 1 ≤ Qu ∧ Qu ≤ 100) (hI : 1 ≤ I ∧ I ≤ 9) (hC : 0 ≤ C ∧ C ≤ 3) (w : World) :
    Calls Try.prog 6 #[.int .u16 a0, .int .u16 a1, .int .u8 a2, .int .u8 a3, .int .u8 a4, .int .u8 a5, .int .u8 a6, .bool true] w fun e w' => e = .returned (.bool true) ∧ Ext w w' := by
  have k1 := ck_I (W := W) (H := H) (M := M) (Qu := Qu) (I := 65536) (C := C) hW hH (btw_t hM) (btw_t hQ) rfl
  have k2 := ck_I (W := W) (H := H) (M := M) (Qu := Qu) (I := 65536) (C := -1) hW hH (btw_t hM) (btw_t hQ) rfl
  have k3 : checkV 65535 65535 0 0 0 0 = 15 := by decide
  go_enter Try.func6, Try.ntmps6
  go_wp2_with (first | (go_at_call 41; refine (known14_any _).mono ?_; intro e w1 h; have he := h.1; have hE := h.2; clear h; subst he; have hc1 := hE.cells (w.heap.size + 2) (by first | omega | (simp; done) | (simp; omega)); have hf1 := hE.marks (w.heap.size + 2) (by first | omega | (simp; done) | (simp; omega)); have hs1 := hE.sizes (w.heap.size + 2) (by first | omega | (simp; done) | (simp; omega)); have hg1 := hE.rules.1; have hh1 := hE.rules.2; have hl1_0 : w.heap.size < w1.heap.size := (by omega); have hl1_1 : w.heap.size + 1 < w1.heap.size := (by omega)) | (go_at_call 47; refine (Check_any _ _ _ _ _ _ _).mono ?_; intro e w1 h; have he := h.1; have hE := h.2; clear h; subst he; have hc1 := hE.cells (w.heap.size + 2) (by first | omega | (simp; done) | (simp; omega)); have hf1 := hE.marks (w.heap.size + 2) (by first | omega | (simp; done) | (simp; omega)); have hs1 := hE.sizes (w.heap.size + 2) (by first | omega | (simp; done) | (simp; omega)); have hg1 := hE.rules.1; have hh1 := hE.rules.2; have hl1_0 : w.heap.size < w1.heap.size := (by omega); have hl1_1 : w.heap.size + 1 < w1.heap.size := (by omega)))
  go_ret
  exact ⟨rfl, by (repeat' (first | exact Ext.refl _ | assumption | refine Ext.alloc' ?_ _ | (refine Ext.set' ?_ (by first | omega | (simp; done) | (simp; omega)) _) | refine Ext.drew' ?_ | refine Ext.drewN' ?_ _ | refine Ext.trans ?_ (by assumption)))⟩
set_option maxHeartbeats 1000000 in
set_option maxRecDepth 100000 in
theorem Refuse_C1 (a0 a1 a2 a3 a4 a5 a6 W H M Qu I C : Int) (g0 : 0 ≤ a0 ∧ a0 ≤ 65535) (g1 : 0 ≤ a1 ∧ a1 ≤ 65535) (g2 : 0 ≤ a2 ∧ a2 ≤ 255) (g3 : 0 ≤ a3 ∧ a3 ≤ 255) (g4 : 0 ≤ a4 ∧ a4 ≤ 255) (g5 : 0 ≤ a5 ∧ a5 ≤ 255) (g6 : 0 ≤ a6 ∧ a6 ≤ 255)
    (eW : 1 + a0 % 200 = W) (eH : 1 + a1 % 200 = H) (eM : 1 + a2 % 4 = M) (eQ : 1 + a3 % 100 = Qu) (eI : 1 + a4 % 9 = I) (eC : a5 % 4 = C) (hr : a6 % 6 = 5)
    (hW : 1 ≤ W ∧ W ≤ 200) (hH : 1 ≤ H ∧ H ≤ 200) (hM : 1 ≤ M ∧ M ≤ 4) (hQ : 1 ≤ Qu ∧ Qu ≤ 100) (hI : 1 ≤ I ∧ I ≤ 9) (hC : 0 ≤ C ∧ C ≤ 3) (w : World) :
    Calls Try.prog 6 #[.int .u16 a0, .int .u16 a1, .int .u8 a2, .int .u8 a3, .int .u8 a4, .int .u8 a5, .int .u8 a6, .bool true] w fun e w' => e = .returned (.bool true) ∧ Ext w w' := by
  have k1 := ck_C (W := W) (H := H) (M := M) (Qu := Qu) (I := I) (C := 65535) hW hH (btw_t hM) (btw_t hQ) (btw_t (by omega)) rfl
  have k2 := ck_C (W := W) (H := H) (M := M) (Qu := Qu) (I := I) (C := -1) hW hH (btw_t hM) (btw_t hQ) (btw_t (by omega)) rfl
  have k3 : checkV 65535 65535 0 0 0 0 = 15 := by decide
  go_enter Try.func6, Try.ntmps6
  go_wp2_with (first | (go_at_call 41; refine (known14_any _).mono ?_; intro e w1 h; have he := h.1; have hE := h.2; clear h; subst he; have hc1 := hE.cells (w.heap.size + 2) (by first | omega | (simp; done) | (simp; omega)); have hf1 := hE.marks (w.heap.size + 2) (by first | omega | (simp; done) | (simp; omega)); have hs1 := hE.sizes (w.heap.size + 2) (by first | omega | (simp; done) | (simp; omega)); have hg1 := hE.rules.1; have hh1 := hE.rules.2; have hl1_0 : w.heap.size < w1.heap.size := (by omega); have hl1_1 : w.heap.size + 1 < w1.heap.size := (by omega)) | (go_at_call 47; refine (Check_any _ _ _ _ _ _ _).mono ?_; intro e w1 h; have he := h.1; have hE := h.2; clear h; subst he; have hc1 := hE.cells (w.heap.size + 2) (by first | omega | (simp; done) | (simp; omega)); have hf1 := hE.marks (w.heap.size + 2) (by first | omega | (simp; done) | (simp; omega)); have hs1 := hE.sizes (w.heap.size + 2) (by first | omega | (simp; done) | (simp; omega)); have hg1 := hE.rules.1; have hh1 := hE.rules.2; have hl1_0 : w.heap.size < w1.heap.size := (by omega); have hl1_1 : w.heap.size + 1 < w1.heap.size := (by omega)))
  go_ret
  exact ⟨rfl, by (repeat' (first | exact Ext.refl _ | assumption | refine Ext.alloc' ?_ _ | (refine Ext.set' ?_ (by first | omega | (simp; done) | (simp; omega)) _) | refine Ext.drew' ?_ | refine Ext.drewN' ?_ _ | refine Ext.trans ?_ (by assumption)))⟩
theorem SlotRefuses_walk (a0 a1 a2 a3 a4 a5 a6 : Int) (b : Bool) (g0 : 0 ≤ a0 ∧ a0 ≤ 65535) (g1 : 0 ≤ a1 ∧ a1 ≤ 65535) (g2 : 0 ≤ a2 ∧ a2 ≤ 255) (g3 : 0 ≤ a3 ∧ a3 ≤ 255) (g4 : 0 ≤ a4 ∧ a4 ≤ 255) (g5 : 0 ≤ a5 ∧ a5 ≤ 255) (g6 : 0 ≤ a6 ∧ a6 ≤ 255) (w : World) :
    Calls Try.prog 6 #[.int .u16 a0, .int .u16 a1, .int .u8 a2, .int .u8 a3, .int .u8 a4, .int .u8 a5, .int .u8 a6, .bool b] w fun e w' => e = .returned (.bool true) ∧ Ext w w' := by
  have hr : a6 % 6 = 0 ∨ a6 % 6 = 1 ∨ a6 % 6 = 2 ∨ a6 % 6 = 3 ∨ a6 % 6 = 4 ∨ a6 % 6 = 5 := by omega
  have x0 : 1 ≤ 1 + a0 % 200 ∧ 1 + a0 % 200 ≤ 200 := by omega
  have x1 : 1 ≤ 1 + a1 % 200 ∧ 1 + a1 % 200 ≤ 200 := by omega
  have x2 : 1 ≤ 1 + a2 % 4 ∧ 1 + a2 % 4 ≤ 4 := by omega
  have x3 : 1 ≤ 1 + a3 % 100 ∧ 1 + a3 % 100 ≤ 100 := by omega
  have x4 : 1 ≤ 1 + a4 % 9 ∧ 1 + a4 % 9 ≤ 9 := by omega
  have x5 : 0 ≤ a5 % 4 ∧ a5 % 4 ≤ 3 := by omega
  rcases hr with h | h | h | h | h | h <;> cases b
  · exact Refuse_W0 a0 a1 a2 a3 a4 a5 a6 _ _ _ _ _ _ g0 g1 g2 g3 g4 g5 g6 rfl rfl rfl rfl rfl rfl h x0 x1 x2 x3 x4 x5 w
  · exact Refuse_W1 a0 a1 a2 a3 a4 a5 a6 _ _ _ _ _ _ g0 g1 g2 g3 g4 g5 g6 rfl rfl rfl rfl rfl rfl h x0 x1 x2 x3 x4 x5 w
  · exact Refuse_H0 a0 a1 a2 a3 a4 a5 a6 _ _ _ _ _ _ g0 g1 g2 g3 g4 g5 g6 rfl rfl rfl rfl rfl rfl h x0 x1 x2 x3 x4 x5 w
  · exact Refuse_H1 a0 a1 a2 a3 a4 a5 a6 _ _ _ _ _ _ g0 g1 g2 g3 g4 g5 g6 rfl rfl rfl rfl rfl rfl h x0 x1 x2 x3 x4 x5 w
  · exact Refuse_M0 a0 a1 a2 a3 a4 a5 a6 _ _ _ _ _ _ g0 g1 g2 g3 g4 g5 g6 rfl rfl rfl rfl rfl rfl h x0 x1 x2 x3 x4 x5 w
  · exact Refuse_M1 a0 a1 a2 a3 a4 a5 a6 _ _ _ _ _ _ g0 g1 g2 g3 g4 g5 g6 rfl rfl rfl rfl rfl rfl h x0 x1 x2 x3 x4 x5 w
  · exact Refuse_Q0 a0 a1 a2 a3 a4 a5 a6 _ _ _ _ _ _ g0 g1 g2 g3 g4 g5 g6 rfl rfl rfl rfl rfl rfl h x0 x1 x2 x3 x4 x5 w
  · exact Refuse_Q1 a0 a1 a2 a3 a4 a5 a6 _ _ _ _ _ _ g0 g1 g2 g3 g4 g5 g6 rfl rfl rfl rfl rfl rfl h x0 x1 x2 x3 x4 x5 w
  · exact Refuse_I0 a0 a1 a2 a3 a4 a5 a6 _ _ _ _ _ _ g0 g1 g2 g3 g4 g5 g6 rfl rfl rfl rfl rfl rfl h x0 x1 x2 x3 x4 x5 w
  · exact Refuse_I1 a0 a1 a2 a3 a4 a5 a6 _ _ _ _ _ _ g0 g1 g2 g3 g4 g5 g6 rfl rfl rfl rfl rfl rfl h x0 x1 x2 x3 x4 x5 w
  · exact Refuse_C0 a0 a1 a2 a3 a4 a5 a6 _ _ _ _ _ _ g0 g1 g2 g3 g4 g5 g6 rfl rfl rfl rfl rfl rfl h x0 x1 x2 x3 x4 x5 w
  · exact Refuse_C1 a0 a1 a2 a3 a4 a5 a6 _ _ _ _ _ _ g0 g1 g2 g3 g4 g5 g6 rfl rfl rfl rfl rfl rfl h x0 x1 x2 x3 x4 x5 w
end Go.Proofs.Ytoipadeeochbnaa
