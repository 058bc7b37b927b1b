import Derived.Test.YtoipadeeochbnaaEvs
namespace Go.Proofs.Ytoipadeeochbnaa
open Go.RowKit Mix
set_option linter.unusedVariables false
attribute [local go_sem] Mix.calm Oper.quietUpon
theorem EqualW_any (q1 q2 c1 c2 : Nat) (ws : List Int) (w : World) (h1 : ∀ (i : Nat) (x : Int), ws[i]? = some x → w.cell? ⟨q1, i, none⟩ = some (.int .u32 x)) (h2 : ∀ (i : Nat) (x : Int), ws[i]? = some x → w.cell? ⟨q2, i, none⟩ = some (.int .u32 x)) (hl : ws.length ≤ 65536) :
    Calls Try.prog 104 #[.slice (some ⟨q1, 0, none⟩) ws.length c1, .slice (some ⟨q2, 0, none⟩) ws.length c2] w fun e w' => e = .returned (.bool true) ∧ Ext w w' := by
  have h1' := Lib.hid h1
  have h2' := Lib.hid h2
  clear h1 h2
  go_enter Try.func104, Try.ntmps104
  go_wp2
  go_loopw [13] (fun t wr => ∃ i : Nat, i ≤ ws.length ∧ t = .int .i64 i ∧ Ext w wr) (fun t _ => ws.length - (intOf t).toNat)
  case atStart => exact ⟨0, Nat.zero_le _, rfl, Ext.refl _⟩
  case round =>
    obtain ⟨i, hi, rfl, hEr⟩ := hrel
    by_cases hlt : i < ws.length
    · obtain ⟨x, hx⟩ : ∃ x, ws[i]? = some x := ⟨_, List.getElem?_eq_getElem hlt⟩
      have g1 := hEr.cell (h1'.out i x hx)
      have g2 := hEr.cell (h2'.out i x hx)
      clear hx
      go_wp2
      refine Mix.wp_region_mixX 0 (.c 0 (.c 1 (.c 2 (.c 3 (.c 4 (.c 5 (.c 6 (.c 7 (.c 8 .done))))))))) (by kernel_rfl) (by kernel_rfl) (Nat.zero_le _) (fun hap hapf => ?_)
      have hcx : ∀ y, (ap wr y).cell? ⟨q1, i, none⟩ = some (.int .u32 x) := fun y => (ap_ext wr y).cell g1
      have hcy : ∀ y, (ap wr y).cell? ⟨q2, i, none⟩ = some (.int .u32 x) := fun y => (ap_ext wr y).cell g2
      repeat (refine Mix.mix_q rfl rfl rfl (fun K hK => ?_); (conv => arg 2; whnf); (first | (go_big_quiet_op; refine hK _ ?_) | (go_simp; refine hK _ ?_)); clear hK K)
      refine (Mix.mix_nil (fun w2 hE2 => ?_))
      clear hap hapf hcx hcy
      dsimp only [Exit.then]
      go_wp2
      go_roundw
      case rel => exact ⟨i + 1, by omega, by go_num, hEr.trans ((Ext.refl _).drew'.trans hE2)⟩
      case measure => simp [intOf]; omega
    · go_wp2
      go_ret
      exact ⟨rfl, hEr⟩
/-- The parts' headers and words, read. -/
def Reads (w : World) (g : Nat) (ps : List (List (Int × Int))) : Prop :=
  ∀ (j : Nat) (p : List (Int × Int)), ps[j]? = some p → p.length ≤ 65536 ∧ ∃ q, w.cell? ⟨g, j, none⟩ = some (.slice (some ⟨q, 0, none⟩) p.length (capN j)) ∧ ∀ (i : Nat) (x : Int), (p.map evW)[i]? = some x → w.cell? ⟨q, i, none⟩ = some (.int .u32 x)
theorem Reads.ext {w w' : World} {g : Nat} {ps : List (List (Int × Int))} (h : Reads w g ps) (hE : Ext w w') : Reads w' g ps := fun j p hp =>
  let ⟨h1, q, h2, h3⟩ := h j p hp
  ⟨h1, q, hE.cell h2, fun i x hx => hE.cell (h3 i x hx)⟩
theorem EqualFunc_any (g1 g2 c1 c2 : Nat) (ps : List (List (Int × Int))) (w : World) (h1 : Reads w g1 ps) (h2 : Reads w g2 ps) (hl : ps.length ≤ 2) :
    Calls Try.prog 102 #[.slice (some ⟨g1, 0, none⟩) ps.length c1, .slice (some ⟨g2, 0, none⟩) ps.length c2, .func (.func 104) #[] #[]] w fun e w' => e = .returned (.bool true) ∧ Ext w w' := by
  go_enter Try.func102, Try.ntmps102
  go_wp2
  go_loopw [17] (fun t wr => ∃ i : Nat, i ≤ ps.length ∧ t = .int .i64 i ∧ Ext w wr) (fun t _ => ps.length - (intOf t).toNat)
  case atStart => exact ⟨0, Nat.zero_le _, rfl, Ext.refl _⟩
  case round =>
    obtain ⟨i, hi, rfl, hEr⟩ := hrel
    by_cases hlt : i < ps.length
    · obtain ⟨p, hp⟩ : ∃ p, ps[i]? = some p := ⟨_, List.getElem?_eq_getElem hlt⟩
      obtain ⟨b1, q1, d1, e1⟩ := (h1.ext hEr) i p hp
      obtain ⟨_, q2, d2, e2⟩ := (h2.ext hEr) i p hp
      have hm := EqualW_any q1 q2 (capN i) (capN i) (p.map evW) wr e1 e2 (by simpa using b1)
      rw [List.length_map] at hm
      clear hp e1 e2
      go_wp2_with (go_at_call 104; refine hm.mono ?_; intro e w2 h; have he := h.1; have hE2 := h.2; clear h; subst he)
      go_roundw
      case rel => exact ⟨i + 1, by omega, by go_num, hEr.trans hE2⟩
      case measure => simp [intOf]; omega
    · go_wp2
      go_ret
      exact ⟨rfl, hEr⟩
theorem EqualFunc_nil (w : World) :
    Calls Try.prog 102 #[.slice none 0 0, .slice none 0 0, .func (.func 104) #[] #[]] w fun e w' => e = .returned (.bool true) ∧ Ext w w' := by
  go_enter Try.func102, Try.ntmps102
  go_wp2
  go_loopw [17] (fun t wr => t = .int .i64 0 ∧ Ext w wr) (fun t _ => 0 - (intOf t).toNat)
  case atStart => exact ⟨rfl, Ext.refl _⟩
  case round =>
    obtain ⟨rfl, hEr⟩ := hrel
    go_wp2
    go_ret
    exact ⟨rfl, hEr⟩
theorem reads_of {w : World} {r g n cp : Nat} {es : List (Int × Int)} {qs : List Nat} (h : Rc w (some r) es (foot r (.slice (some ⟨g, 0, none⟩) n cp) qs)) : Reads w g (partsE es) := by
  intro j p hp
  have h' := h
  obtain ⟨_, v, qs', hA, hF, _⟩ := h'
  rw [partsE_map] at hA
  have hj := (List.getElem?_eq_some_iff.1 hp).1
  obtain ⟨g', cp', rfl⟩ := ownsRow_form hA.row (by simp; omega)
  simp only [foot, Value.ownBlock, Option.toList_some, List.singleton_append, List.cons.injEq, true_and] at hF
  obtain ⟨rfl, rfl⟩ := hF
  obtain ⟨q, hq⟩ : ∃ q, qs[j]? = some q := ⟨_, List.getElem?_eq_getElem (by rw [hA.len]; simpa using hj)⟩
  obtain ⟨k1, k2⟩ := each_read h hp hq
  refine ⟨each_bd h hp, q, k1, fun i x hx => ?_⟩
  rw [List.getElem?_map] at hx
  obtain ⟨e, he, rfl⟩ := Option.map_eq_some_iff.1 hx
  exact k2 i e he
theorem rc_form {w : World} {r : Nat} {es : List (Int × Int)} {F : List Nat} (h : Rc w (some r) es F) :
    (es = [] ∧ w.heap[r]? = some (.cells #[.slice none 0 0] 140 (0, 0))) ∨
    (0 < (partsE es).length ∧ ∃ g cp qs, w.heap[r]? = some (.cells #[.slice (some ⟨g, 0, none⟩) (partsE es).length cp] 140 (0, 0)) ∧ F = foot r (.slice (some ⟨g, 0, none⟩) (partsE es).length cp) qs) := by
  obtain ⟨_, v, qs, hA, hF, hv⟩ := h
  rcases Nat.eq_zero_or_pos es.length with h0 | h0
  · have he : es = [] := List.eq_nil_of_length_eq_zero h0
    obtain rfl := hv he
    exact .inl ⟨he, hA.cell⟩
  · have hp : 0 < (partsE es).length := by
      unfold partsE
      rw [if_neg (by omega)]
      split <;> simp
    rw [partsE_map] at hA
    obtain ⟨g, cp, rfl⟩ := ownsRow_form hA.row (by simpa using hp)
    rw [List.length_map] at hA hF
    exact .inr ⟨hp, g, cp, qs, hA.cell, hF⟩
theorem partsE_len (es : List (Int × Int)) : (partsE es).length ≤ 2 := by
  unfold partsE
  split
  · simp
  · split <;> simp
theorem Same_rc (r s : Nat) (es : List (Int × Int)) (F G : List Nat) (w : World) (h : Rc w (some r) es F) (k : Rc w (some s) es G) :
    Calls Try.prog 31 #[.pointer (some ⟨r, 0, none⟩), .pointer (some ⟨s, 0, none⟩)] w fun e w' => e = .returned (.bool true) ∧ Ext w w' := by
  rcases rc_form h with ⟨rfl, hr⟩ | ⟨hp, g, cp, qs, hr, rfl⟩
  · obtain ⟨_, hs⟩ : _ ∧ w.heap[s]? = some (.cells #[.slice none 0 0] 140 (0, 0)) := by
      rcases rc_form k with h | h
      · exact h
      · exact absurd h.1 (by simp [partsE])
    go_enter Try.func31, Try.ntmps31
    go_wp2_with fail
    refine (all_rc r [] _ _ _ hr).mono ?_
    rintro e w' ⟨rfl, rfl⟩
    go_wp2_with fail
    refine (all_rc s [] _ _ _ hs).mono ?_
    rintro e w' ⟨rfl, rfl⟩
    go_wp2_with fail
    refine (EqualFunc_nil _).mono ?_
    rintro e w' ⟨rfl, hE⟩
    go_wp2
    go_ret
    exact ⟨rfl, hE⟩
  · obtain ⟨g2, cp2, qs2, hs, rfl⟩ : ∃ g cp qs, w.heap[s]? = some (.cells #[.slice (some ⟨g, 0, none⟩) (partsE es).length cp] 140 (0, 0)) ∧ G = foot s (.slice (some ⟨g, 0, none⟩) (partsE es).length cp) qs := by
      rcases rc_form k with h | h
      · exact absurd hp (by simp [h.1, partsE])
      · exact h.2
    have R1 := reads_of h
    have R2 := reads_of k
    have hlen := partsE_len es
    have hm := EqualFunc_any g g2 cp cp2 (partsE es) w R1 R2 hlen
    clear R1 R2
    go_enter Try.func31, Try.ntmps31
    go_wp2_with fail
    refine (all_rc r [] _ _ _ hr).mono ?_
    rintro e w' ⟨rfl, rfl⟩
    go_wp2_with fail
    refine (all_rc s [] _ _ _ hs).mono ?_
    rintro e w' ⟨rfl, rfl⟩
    go_wp2_with fail
    refine hm.mono ?_
    rintro e w' ⟨rfl, hE⟩
    go_wp2
    go_ret
    exact ⟨rfl, hE⟩
end Go.Proofs.Ytoipadeeochbnaa
