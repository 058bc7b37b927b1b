import Derived.Test.YtoipadeeochbnaaKnown05
import Derived.Test.YtoipadeeochbnaaPair
namespace Go.Proofs.Ytoipadeeochbnaa
open Go.RowKit Mix
set_option linter.unusedVariables false
attribute [local go_sem] Mix.calm Oper.quietUpon
theorem rep1_count (lo : Int) (n : Nat) (j : Int) : countE ((List.range n).map fun (k : Nat) => ((1 : Int), lo + (k : Int))) j = if j = 1 then (n : Int) else 0 := by
  induction n with
  | zero => simp [countE]
  | succ n ih =>
    rw [List.range_succ, List.map_append, countE_append, ih]
    by_cases h : j = 1
    · subst h
      simp [countE]
    · have h' : ¬ (1 = j) := fun e => h e.symm
      simp [countE, h, h']
theorem count_two (x : Int) (j : Int) : countE [(2, x)] j = if j = 2 then 1 else 0 := by
  by_cases h : j = 2
  · subst h
    simp [countE]
  · have h' : ¬ (2 = j) := fun e => h e.symm
    simp [countE, h, h']
theorem winE_count (lo hi j : Int) : countE (winE lo hi) j = (if j = 2 then 1 else 0) + (if j = 1 then ((winN lo hi : Nat) : Int) else 0) := by
  show countE ([(2, ((winN lo hi : Nat) : Int))] ++ (List.range (winN lo hi)).map fun (k : Nat) => ((1 : Int), lo + (k : Int))) j = _
  rw [countE_append, rep1_count, count_two]
theorem winB_count' (lo hi j : Int) : countE (winB lo hi) j = (if j = 2 then 1 else 0) + (if j = 1 then 2 * ((winN lo hi : Nat) : Int) else 0) := by
  show countE ([(2, ((winN lo hi : Nat) : Int))] ++ (List.range (winN lo hi)).flatMap fun (k : Nat) => [(1, lo + (k : Int)), (1, lo + (k : Int))]) j = _
  rw [countE_append, rep2_count, count_two]
  by_cases h : j = 1
  · simp [h]
  · simp [h]
theorem ArgInts.take {w : World} {k : IntKind} {ao : Option Addr} {zs : List Int} (h : ArgInts w k ao zs) (n : Nat) : ArgInts w k ao (zs.take n) := fun i x hx => by
  refine h i x ?_
  rw [List.getElem?_take] at hx
  split at hx
  · exact hx
  · cases hx
set_option maxRecDepth 100000 in
set_option maxHeartbeats 4000000 in
theorem ScanSame_walk (ao : Option Addr) (cl : Nat) (l : List Int) (hc : ao = none → cl = 0) (hz : ∀ x ∈ l, In64 x) (am : Option Addr) (cm : Nat) (us : List Int) (hcm : am = none → cm = 0) (hum : us.length ≤ cm) (hcx : cm ≤ maxLen) (huz : ∀ x ∈ us, In64 x)
    (a b s f t : Int) (ha : In64 a) (hb : In64 b) (hs : In64 s) (hf : 0 ≤ f ∧ f ≤ 255) (ht : 0 ≤ t ∧ t ≤ 255) (w : World) (hA : ArgInts w .i64 ao l) (hU : ArgInts w .i64 am us) :
    Calls Try.prog 23 #[.slice ao l.length cl, .slice am us.length cm, .int .i64 a, .int .i64 b, .int .i64 s, .int .u8 f, .int .u8 t] w fun e w' => e = .returned (.bool true) ∧ Ext w w' := by
  obtain ⟨hf0, hf1⟩ := hf
  obtain ⟨ht0, ht1⟩ := ht
  by_cases hbig : 40 < l.length
  · have hd : decide ((40 : Int) < (l.length : Int)) = true := by simp; omega
    go_enter Try.func23, Try.ntmps23
    go_wp2_with fail
    refine (known05_any _).mono ?_
    rintro e w1 ⟨rfl, hE1⟩
    go_wp2
    go_ret
    exact ⟨rfl, hE1⟩
  have hd1 : decide ((40 : Int) < (l.length : Int)) = false := by simp; omega
  by_cases hless : us.length < l.length
  · have hd2 : decide ((us.length : Int) < (l.length : Int)) = true := by simp; omega
    go_enter Try.func23, Try.ntmps23
    go_wp2_with fail
    refine (known05_any _).mono ?_
    rintro e w1 ⟨rfl, hE1⟩
    go_wp2
    go_ret
    exact ⟨rfl, hE1⟩
  have hd2 : decide ((us.length : Int) < (l.length : Int)) = false := by simp; omega
  have hz' := Lib.hid hz
  have huz' := Lib.hid huz
  clear hz huz
  have hlm : l.length ≤ maxLen := by unfold maxLen; omega
  obtain ⟨vs, hvs⟩ : ∃ vs, vs = us.take l.length := ⟨_, rfl⟩
  have hvl : vs.length = l.length := by rw [hvs]; simp; omega
  have hV : ArgInts w .i64 am vs := by rw [hvs]; exact hU.take _
  have hvz : ∀ x ∈ vs, In64 x := fun x hx => huz'.out x (by rw [hvs] at hx; exact List.mem_of_mem_take hx)
  have hvz' := Lib.hid hvz
  clear hvs hvz
  have hV' := Lib.hid hV
  clear hV hU
  go_enter Try.func23, Try.ntmps23
  go_wp2_with fail
  refine (of05_any ao cl l w hA hc (by omega)).mono ?_
  rintro e w1 ⟨x, rx, vx, Fx, tL, rfl, hX1, hgX, hLr, _, hE1⟩
  obtain ⟨aL, cL, rfl⟩ := own_form hLr
  clear hLr hA
  have hgX' := Lib.hid hgX
  clear hgX
  go_wp2_with fail
  have hEx := (Ext.refl w1).alloc' (.cells #[.slice aL l.length cL, .slice none 0 0] 82)
  have hX2 := (show Bf w1 x (some rx) l [] _ from ⟨_, _, hX1, rfl⟩).ext hEx
  have hE2 := hE1.trans hEx
  have hgX := hgX'.out
  generalize bfoot x vx Fx = F0 at *
  clear hX1 hgX'
  generalize w1.alloc (.cells #[.slice aL l.length cL, .slice none 0 0] 82) = w2 at *
  have mM := of05_any am cm vs w2 (hV'.out.ext hE2) hcm (by omega)
  rw [hvl] at mM
  refine mM.mono ?_
  clear mM
  rintro e w3 ⟨y, ry, vy, Fy, tM, rfl, hY3, hgY, hMr, _, hE3⟩
  rw [hvl] at hMr
  obtain ⟨aM, cM, rfl⟩ := own_form hMr
  clear hMr
  have hX3 := hX2.ext hE3
  have hY3' : Bf w3 y (some ry) vs [] _ := ⟨_, _, hY3, rfl⟩
  have hap : ∀ z ∈ F0, z ∉ bfoot y vy Fy := fun z hz hm => by
    have h1 := hX2.lt z hz
    have h2 := hgY z hm
    omega
  have hgY' : ∀ z ∈ bfoot y vy Fy, w.heap.size ≤ z := fun z hz => Nat.le_trans hE2.size (hgY z hz)
  have hE3w := hE2.trans hE3
  generalize bfoot y vy Fy = G0 at *
  clear hY3 hgY hX2
  have hEy := (Ext.refl w3).alloc' (.cells #[.slice aM l.length cM, .slice none 0 0] 82)
  have P0 : Pr w l.length x y rx ry l vs [] [] F0 G0 (w3.alloc (.cells #[.slice aM l.length cM, .slice none 0 0] 82)) :=
    Pr.ext ⟨hX3, hY3', rfl, hvl, hz'.out, hvz'.out, hap, hgX, hgY', hE3w⟩ hEy
  have lo0 := clipI_bd f l.length
  have hi0 := clipI_bd t l.length
  have hl40 : l.length ≤ 40 := by omega
  clear hX3 hY3' hap hgX hgY' hE3w hEy hE1 hEx hE2 hE3 hd1 hd2 hbig hless hcm hum hcx hlm hvl
  obtain ⟨lo, hlo⟩ : ∃ lo, lo = clipI f 0 l.length := ⟨_, rfl⟩
  obtain ⟨hi, hhi⟩ : ∃ hi, hi = clipI t 0 l.length := ⟨_, rfl⟩
  rw [← hlo] at lo0
  rw [← hhi] at hi0
  obtain ⟨lo0, lo1⟩ := lo0
  obtain ⟨hi0, hi1⟩ := hi0
  have hN : winN lo hi ≤ 40 := by unfold winN; omega
  have hlo' := Lib.hid hlo
  have hhi' := Lib.hid hhi
  clear hlo hhi
  have eL : (winE lo hi).length ≤ 41 := by rw [winE_len]; omega
  have eB : (winB lo hi).length ≤ 81 := by rw [winB_len]; omega
  go_wp2_with fail
  refine (of_any a _).mono ?_
  rintro e w6 ⟨rfl, hE6⟩
  replace P0 := Pr.ext P0 hE6
  clear hE6
  go_wp2_with fail
  have mC := Load_bf x _ _ _ _ a f t ha P0.ia (by rw [P0.la]; omega) (.inr (by rw [P0.la]; simp only [List.length_append, List.length_nil]; omega)) _ P0.A
  rw [P0.la, ← hlo'.out, ← hhi'.out] at mC
  refine mC.mono ?_
  clear mC
  intro e w6 hT
  obtain ⟨rfl, F', P'⟩ := Pr.stepA P0 hT (P0.la) (P0.ia)
  clear P0 hT
  have P0 := P'
  clear P'
  go_wp2_with fail
  refine (of_any b _).mono ?_
  rintro e w6 ⟨rfl, hE6⟩
  replace P0 := Pr.ext P0 hE6
  clear hE6
  go_wp2_with fail
  have mC := Load_bf y _ _ _ _ b f t hb P0.ib (by rw [P0.lb]; omega) (.inr (by rw [P0.lb]; simp only [List.length_append, List.length_nil]; omega)) _ P0.B
  rw [P0.lb, ← hlo'.out, ← hhi'.out] at mC
  refine mC.mono ?_
  clear mC
  intro e w6 hT
  obtain ⟨rfl, F', P'⟩ := Pr.stepB P0 hT (P0.lb) (P0.ib)
  clear P0 hT
  have P0 := P'
  clear P'
  go_wp2_with fail
  refine (of_any b _).mono ?_
  rintro e w6 ⟨rfl, hE6⟩
  replace P0 := Pr.ext P0 hE6
  clear hE6
  go_wp2_with fail
  refine (of_any s _).mono ?_
  rintro e w6 ⟨rfl, hE6⟩
  replace P0 := Pr.ext P0 hE6
  clear hE6
  go_wp2_with fail
  have mC := Store_bf x _ _ _ _ b s f t hb hs P0.ia (by rw [P0.la]; omega) (.inr (by rw [P0.la]; simp only [List.length_append, List.length_nil]; omega)) _ P0.A
  rw [P0.la, ← hlo'.out, ← hhi'.out] at mC
  refine mC.mono ?_
  clear mC
  intro e w6 hT
  obtain ⟨rfl, F', P'⟩ := Pr.stepA P0 hT ((layV_len _ _ _ _).trans P0.la) (storeV_in hs P0.ia (by omega) (by rw [P0.la]; omega) (by rw [P0.la]; omega))
  clear P0 hT
  have P0 := P'
  clear P'
  go_wp2_with fail
  refine (of_any a _).mono ?_
  rintro e w6 ⟨rfl, hE6⟩
  replace P0 := Pr.ext P0 hE6
  clear hE6
  go_wp2_with fail
  refine (of_any a _).mono ?_
  rintro e w6 ⟨rfl, hE6⟩
  replace P0 := Pr.ext P0 hE6
  clear hE6
  go_wp2_with fail
  have mC := Store_bf y _ _ _ _ a a f t ha ha P0.ib (by rw [P0.lb]; omega) (.inr (by rw [P0.lb]; simp only [List.length_append, List.length_nil]; omega)) _ P0.B
  rw [P0.lb, ← hlo'.out, ← hhi'.out] at mC
  refine mC.mono ?_
  clear mC
  intro e w6 hT
  obtain ⟨rfl, F', P'⟩ := Pr.stepB P0 hT ((layV_len _ _ _ _).trans P0.lb) (storeV_in ha P0.ib (by omega) (by rw [P0.lb]; omega) (by rw [P0.lb]; omega))
  clear P0 hT
  have P0 := P'
  clear P'
  go_wp2_with fail
  refine (of_any a _).mono ?_
  rintro e w6 ⟨rfl, hE6⟩
  replace P0 := Pr.ext P0 hE6
  clear hE6
  go_wp2_with fail
  refine (of_any s _).mono ?_
  rintro e w6 ⟨rfl, hE6⟩
  replace P0 := Pr.ext P0 hE6
  clear hE6
  go_wp2_with fail
  have mC := Put_bf x _ _ _ _ a s 3 f t ha hs P0.ia (by rw [P0.la]; omega) (.inr (by rw [P0.la]; simp only [List.length_append, List.length_nil]; omega)) _ P0.A
  rw [P0.la, ← hlo'.out, ← hhi'.out] at mC
  refine mC.mono ?_
  clear mC
  intro e w6 hT
  obtain ⟨rfl, F', P'⟩ := Pr.stepA P0 hT ((layV_len _ _ _ _).trans P0.la) (putV_in P0.ia (by omega) (by rw [P0.la]; omega) (by rw [P0.la]; omega))
  clear P0 hT
  have P0 := P'
  clear P'
  go_wp2_with fail
  refine (of_any b _).mono ?_
  rintro e w6 ⟨rfl, hE6⟩
  replace P0 := Pr.ext P0 hE6
  clear hE6
  go_wp2_with fail
  refine (of_any b _).mono ?_
  rintro e w6 ⟨rfl, hE6⟩
  replace P0 := Pr.ext P0 hE6
  clear hE6
  go_wp2_with fail
  have mC := Put_bf y _ _ _ _ b b 3 f t hb hb P0.ib (by rw [P0.lb]; omega) (.inr (by rw [P0.lb]; simp only [List.length_append, List.length_nil]; omega)) _ P0.B
  rw [P0.lb, ← hlo'.out, ← hhi'.out] at mC
  refine mC.mono ?_
  clear mC
  intro e w6 hT
  obtain ⟨rfl, F', P'⟩ := Pr.stepB P0 hT ((layV_len _ _ _ _).trans P0.lb) (putV_in P0.ib (by omega) (by rw [P0.lb]; omega) (by rw [P0.lb]; omega))
  clear P0 hT
  have P0 := P'
  clear P'
  go_wp2_with fail
  refine (of_any b _).mono ?_
  rintro e w6 ⟨rfl, hE6⟩
  replace P0 := Pr.ext P0 hE6
  clear hE6
  go_wp2_with fail
  have mC := Take_bf x _ _ _ _ b 2 f t hb P0.ia (by rw [P0.la]; omega) (.inr (by rw [P0.la]; simp only [List.length_append, List.length_nil]; omega)) _ P0.A
  rw [P0.la, ← hlo'.out, ← hhi'.out] at mC
  refine mC.mono ?_
  clear mC
  intro e w6 hT
  obtain ⟨rfl, F', P'⟩ := Pr.stepA P0 hT (P0.la) (P0.ia)
  clear P0 hT
  have P0 := P'
  clear P'
  go_wp2_with fail
  refine (of_any s _).mono ?_
  rintro e w6 ⟨rfl, hE6⟩
  replace P0 := Pr.ext P0 hE6
  clear hE6
  go_wp2_with fail
  have mC := Take_bf y _ _ _ _ s 2 f t hs P0.ib (by rw [P0.lb]; omega) (.inr (by rw [P0.lb]; simp only [List.length_append, List.length_nil]; omega)) _ P0.B
  rw [P0.lb, ← hlo'.out, ← hhi'.out] at mC
  refine mC.mono ?_
  clear mC
  intro e w6 hT
  obtain ⟨rfl, F', P'⟩ := Pr.stepB P0 hT (P0.lb) (P0.ib)
  clear P0 hT
  have P0 := P'
  clear P'
  have hel : ([] ++ winE lo hi ++ winB lo hi ++ winB lo hi ++ winE lo hi).length ≤ 250 := by simp only [List.length_append, List.length_nil]; omega
  have c3 : countE ([] ++ winE lo hi ++ winB lo hi ++ winB lo hi ++ winE lo hi) 3 = 0 := by
    simp only [countE_append, winE_count, winB_count']
    simp [countE]
  have c2 : countE ([] ++ winE lo hi ++ winB lo hi ++ winB lo hi ++ winE lo hi) 2 = 4 := by
    simp only [countE_append, winE_count, winB_count']
    simp [countE]
  generalize ([] : List (Int × Int)) ++ winE lo hi ++ winB lo hi ++ winB lo hi ++ winE lo hi = es at *
  have hQ : ∃ xs ys F G, Pr w l.length x y rx ry xs ys es es F G w6 := ⟨_, _, _, _, P0⟩
  clear P0
  obtain ⟨xs, ys, F, G, P0⟩ := hQ
  go_wp2_with fail
  refine (known05_any _).mono ?_
  rintro e w7 ⟨rfl, hE7⟩
  have P1 := Pr.ext P0 hE7
  clear P0
  obtain ⟨⟨v1, Fr1, hA7, rfl⟩, ⟨v2, Fr2, hB7, rfl⟩, _, _, _, _, _, _, _, hE07⟩ := P1
  clear hE7
  go_wp2_with fail
  refine (Trace_bf x _ _ _ _ _ w7 hA7).mono ?_
  rintro e w8 ⟨rfl, rfl⟩
  go_wp2_with fail
  refine (Trace_bf y _ _ _ _ _ w7 hB7).mono ?_
  rintro e w8 ⟨rfl, rfl⟩
  go_wp2_with fail
  refine (Same_rc rx ry es _ _ w7 hA7.rc hB7.rc).mono ?_
  rintro e w8 ⟨rfl, hE8⟩
  have hA8 := hA7.turn (Turn.of_ext hE8) (G := []) (by simp)
  have hE08 := hE07.trans hE8
  clear hE8 hB7 hA7
  go_wp2_with fail
  refine (Trace_bf x _ _ _ _ _ w8 hA8).mono ?_
  rintro e w9 ⟨rfl, rfl⟩
  go_wp2_with fail
  refine (Count_rc rx es _ 3 w8 hA8.rc (by omega)).mono ?_
  rw [c3]
  rintro e w9 ⟨rfl, hE9⟩
  have hA9 := hA8.turn (Turn.of_ext hE9) (G := []) (by simp)
  have hE09 := hE08.trans hE9
  clear hE9 hA8
  go_wp2_with fail
  refine (Trace_bf x _ _ _ _ _ w9 hA9).mono ?_
  rintro e w10 ⟨rfl, rfl⟩
  go_wp2_with fail
  refine (Count_rc rx es _ 2 w9 hA9.rc (by omega)).mono ?_
  rw [c2]
  rintro e w10 ⟨rfl, hE10⟩
  go_wp2
  go_ret
  exact ⟨rfl, hE09.trans hE10⟩
end Go.Proofs.Ytoipadeeochbnaa
