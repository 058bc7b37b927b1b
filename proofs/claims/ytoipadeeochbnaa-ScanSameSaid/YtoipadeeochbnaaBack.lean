import Derived.Test.YtoipadeeochbnaaScan9
namespace Go.Proofs.Ytoipadeeochbnaa
open Go.RowKit
set_option linter.unusedVariables false
theorem band_low {x : Int} {m : Nat} (hx : In64 x) (hm : m ≤ 62) : bits .and .i64 x (2 ^ m - 1) = x % 2 ^ m := by
  have hp : (2 : Int) ^ m = ((2 ^ m : Nat) : Int) := by simp
  have h1 : 2 ^ m ≤ 2 ^ 62 := Nat.pow_le_pow_right (by omega) hm
  have h0 : 0 < 2 ^ m := Nat.pos_of_ne_zero (by simp)
  have hd : (2 ^ m : Nat) ∣ 2 ^ 64 := Nat.pow_dvd_pow 2 (by omega)
  rw [show (2 : Nat) ^ 64 = 18446744073709551616 from rfl] at hd
  rw [band_eq, hp]
  have e2 : BitVec.ofInt 64 (((2 ^ m : Nat) : Int) - 1) = BitVec.ofNat 64 (2 ^ m - 1) := by
    rw [← BitVec.ofInt_natCast]
    congr 1
    omega
  rw [e2]
  have e3 : (BitVec.ofInt 64 x &&& BitVec.ofNat 64 (2 ^ m - 1)).toNat = (x % 18446744073709551616).toNat % 2 ^ m := by
    rw [BitVec.toNat_and, BitVec.toNat_ofNat, BitVec.toNat_ofInt, Nat.mod_eq_of_lt (by omega), Nat.and_two_pow_sub_one_eq_mod]
    rfl
  rw [BitVec.toInt_eq_toNat_cond, e3]
  have l : (x % 18446744073709551616).toNat % 2 ^ m < 2 ^ m := Nat.mod_lt _ h0
  rw [if_pos (by omega)]
  have e4 : (((x % 18446744073709551616).toNat % 2 ^ m : Nat) : Int) = (x % 18446744073709551616) % ((2 ^ m : Nat) : Int) := by
    rw [Int.natCast_emod, Int.toNat_of_nonneg (Int.emod_nonneg _ (by omega))]
  rw [e4]
  exact Int.emod_emod_of_dvd x (Int.natCast_dvd_natCast.2 hd)
theorem bor_add {a b : Nat} {i : Nat} (hb : b < 2 ^ i) (h : 2 ^ i * a + b < 9223372036854775808) : bits .or .i64 ((2 ^ i * a : Nat) : Int) (b : Int) = ((2 ^ i * a + b : Nat) : Int) := by
  rw [bor_eq, BitVec.ofInt_natCast, BitVec.ofInt_natCast, BitVec.toInt_eq_toNat_cond]
  have e : (BitVec.ofNat 64 (2 ^ i * a) ||| BitVec.ofNat 64 b).toNat = 2 ^ i * a + b := by
    rw [BitVec.toNat_or, BitVec.toNat_ofNat, BitVec.toNat_ofNat, Nat.mod_eq_of_lt (by omega), Nat.mod_eq_of_lt (by omega), Nat.two_pow_add_eq_or_of_lt hb]
  rw [e, if_pos (by omega)]
theorem band_mk {x : Int} (h : In64 x) (b : Bool) : bits .and .i64 (mk b) x = if b then x else 0 := by
  cases b
  · rw [band_eq]
    exact congrArg BitVec.toInt (BitVec.zero_and)
  · rw [band_eq]
    exact (congrArg BitVec.toInt (BitVec.allOnes_and)).trans (ofInt_toInt h)
theorem in64_digV (s n i : Int) : In64 (digV s n i) := in64_band _ _
theorem putK_zero (a s i : Int) (N k : Nat) : putK a s N i 0 k = if a ≤ i ∧ i < a + k then digV s N (i - a) else 0 := by
  induction k with
  | zero => rw [if_neg (by omega)]; rfl
  | succ k ih =>
    unfold putK
    rw [ih, band_mk (in64_digV _ _ _)]
    by_cases h : a = i - (k : Int)
    · rw [if_neg (by omega), if_pos (show a ≤ i ∧ i < a + ((k + 1 : Nat) : Int) by omega), if_pos (by simpa using h), zero_bor (in64_digV _ _ _)]
      congr 1
      omega
    · have e : decide (a = i - (k : Int)) = false := by simpa using h
      rw [e]
      simp only [Bool.false_eq_true, if_false]
      by_cases h2 : a ≤ i ∧ i < a + k
      · rw [if_pos h2, if_pos (by omega), bor_zero (in64_digV _ _ _)]
      · rw [if_neg h2, if_neg (by omega), bor_zero (by simp [In64])]
def takeB (N : Nat) (x o j : Int) : Int := bits .or .i64 o (wrap64 (digV x 1 0 * 2 ^ (clip63 (8 * ((N : Int) - 1 - j))).toNat))
theorem takeK_eq (a i x o : Int) (N k : Nat) (ho : In64 o) : takeK a N i x o k = if a ≤ i ∧ i < a + k then takeB N x o (i - a) else o := by
  induction k with
  | zero => rw [if_neg (by omega)]; rfl
  | succ k ih =>
    unfold takeK
    rw [ih, band_mk (in64_digV _ _ _)]
    by_cases h : a = i - (k : Int)
    · rw [if_neg (by omega), if_pos (show a ≤ i ∧ i < a + ((k + 1 : Nat) : Int) by omega), if_pos (by simpa using h)]
      have : i - a = (k : Int) := by omega
      rw [this]
      rfl
    · have e : decide (a = i - (k : Int)) = false := by simpa using h
      rw [e]
      simp only [Bool.false_eq_true, if_false, Int.zero_mul]
      rw [show wrap64 0 = 0 from wrap_in (by simp [In64])]
      by_cases h2 : a ≤ i ∧ i < a + k
      · rw [if_pos h2, if_pos (by omega), bor_zero (show In64 (takeB N x o (i - a)) from in64_bor _ _)]
      · rw [if_neg h2, if_neg (by omega), bor_zero ho]
/-- What kk bytes of N, the greatest first, come to. -/
def topS (s : Int) (N kk : Nat) : Int := s / 2 ^ (8 * (N - kk)) % 2 ^ (8 * kk) * 2 ^ (8 * (N - kk))
theorem in64_div {s : Int} (hs : In64 s) (e : Nat) : In64 (s / 2 ^ e) := by
  have hp : (0 : Int) < 2 ^ e := Int.pow_pos (by omega)
  unfold In64 at *
  constructor
  · refine Int.le_ediv_of_mul_le hp ?_
    generalize (2 : Int) ^ e = P at *
    omega
  · rcases Int.lt_or_le s 0 with h | h
    · have := Int.ediv_neg_of_neg_of_pos h hp
      omega
    · have := Int.ediv_le_self (2 ^ e) h
      omega
theorem digV_eq {s : Int} (hs : In64 s) {N kk : Nat} (h : kk < N) (hN : N ≤ 7) : digV s N kk = s / 2 ^ (8 * (N - 1 - kk)) % 256 := by
  unfold digV
  have e : (clip63 (8 * ((N : Int) - 1 - (kk : Int)))).toNat = 8 * (N - 1 - kk) := by unfold clip63; split <;> (try split) <;> omega
  rw [e]
  exact band_low (m := 8) (in64_div hs _) (by omega)
theorem digV_low {y : Int} (hy : In64 y) : digV y 1 0 = y % 256 := by
  unfold digV
  have e : (clip63 (8 * (1 - 1 - 0))).toNat = 0 := rfl
  rw [e]
  have := band_low (x := y) (m := 8) hy (by omega)
  simpa using this
theorem mod_step (u : Int) (M : Nat) (hM : 0 < M) : u % (256 * M : Int) = u / 256 % M * 256 + u % 256 := by
  have e1 : u = 256 * (u / 256) + u % 256 := (Int.mul_ediv_add_emod u 256).symm
  have e2 : u / 256 = M * (u / 256 / M) + u / 256 % M := (Int.mul_ediv_add_emod (u / 256) M).symm
  have r0 := Int.emod_nonneg u (b := 256) (by omega)
  have r1 := Int.emod_lt_of_pos u (b := 256) (by omega)
  have q0 := Int.emod_nonneg (u / 256) (b := (M : Int)) (by omega)
  have q1 := Int.emod_lt_of_pos (u / 256) (b := (M : Int)) (by omega)
  have e3 : u = (u / 256 % M * 256 + u % 256) + 256 * M * (u / 256 / M) := by
    rw [Int.mul_assoc]
    generalize (M : Int) * (u / 256 / M) = t at *
    omega
  generalize u / 256 / M = z at *
  generalize u / 256 % M = q at *
  generalize u % 256 = r at *
  rw [e3, Int.add_mul_emod_self_left]
  refine Int.emod_eq_of_lt (by omega) ?_
  have : (q + 1) * 256 ≤ (M : Int) * 256 := Int.mul_le_mul_of_nonneg_right (by omega) (by omega)
  omega
theorem take_core (P M q r i : Nat) (n2 : 2 ^ i = P * 256) (hP0 : 0 < P) (hPM : P * 256 * M ≤ 72057594037927936) (q1 : q < M) (r1 : r < 256) :
    bits .or .i64 ((q : Int) * ((P : Int) * 256)) (wrap64 ((r : Int) * (P : Int))) = ((q : Int) * 256 + (r : Int)) * (P : Int) := by
  have b1 : r * P < P * 256 := by rw [Nat.mul_comm]; exact Nat.mul_lt_mul_of_pos_left (by omega) hP0
  have b2 : P * 256 * (q + 1) ≤ P * 256 * M := Nat.mul_le_mul_left _ (by omega)
  rw [Nat.mul_add, Nat.mul_one] at b2
  have b3 : P * 256 * q + r * P < 72057594037927936 := by
    generalize P * 256 * M = z1 at *
    generalize P * 256 * q = z2 at *
    generalize r * P = z3 at *
    omega
  have b4 : r * P < 72057594037927936 := Nat.lt_of_le_of_lt (Nat.le_add_left _ _) b3
  have hw : wrap64 ((r : Int) * (P : Int)) = ((r * P : Nat) : Int) := by
    rw [show ((r : Int) * (P : Int)) = ((r * P : Nat) : Int) by simp]
    generalize r * P = z3 at *
    exact wrap_in (by unfold In64; omega)
  rw [hw]
  have := bor_add (a := q) (b := r * P) (i := i) (by rw [n2]; exact b1) (by rw [n2]; exact Nat.lt_trans b3 (by decide))
  rw [n2] at this
  rw [show ((q : Int) * ((P : Int) * 256)) = ((P * 256 * q : Nat) : Int) by simp [Int.mul_comm, Int.mul_left_comm, Int.mul_assoc], this]
  simp [Int.mul_add, Int.mul_comm, Int.mul_left_comm]
theorem take_step {s : Int} (hs : In64 s) {N kk : Nat} (h : kk < N) (hN : N ≤ 7) : takeB N (digV s N kk) (topS s N kk) kk = topS s N (kk + 1) := by
  unfold takeB
  rw [digV_low (in64_digV _ _ _), digV_eq hs h hN, Int.emod_emod]
  have e : (clip63 (8 * ((N : Int) - 1 - (kk : Int)))).toNat = 8 * (N - 1 - kk) := by unfold clip63; split <;> (try split) <;> omega
  rw [e]
  unfold topS
  obtain ⟨E, hE⟩ : ∃ E, E = 8 * (N - 1 - kk) := ⟨_, rfl⟩
  have x1 : 8 * (N - kk) = E + 8 := by omega
  have x2 : 8 * (N - (kk + 1)) = E := by omega
  have x3 : 8 * (kk + 1) = 8 * kk + 8 := by omega
  rw [← hE, x1, x2, x3]
  obtain ⟨P, hP⟩ : ∃ P : Nat, P = 2 ^ E := ⟨_, rfl⟩
  obtain ⟨M, hM⟩ : ∃ M : Nat, M = 2 ^ (8 * kk) := ⟨_, rfl⟩
  have p1 : ((2 : Int) ^ E) = (P : Int) := by rw [hP]; simp
  have p2 : ((2 : Int) ^ (E + 8)) = (P : Int) * 256 := by rw [Int.pow_add, p1, show (2 : Int) ^ 8 = 256 by decide]
  have p3 : ((2 : Int) ^ (8 * kk)) = (M : Int) := by rw [hM]; simp
  have p4 : ((2 : Int) ^ (8 * kk + 8)) = 256 * (M : Int) := by rw [Int.pow_add, p3, Int.mul_comm, show (2 : Int) ^ 8 = 256 by decide]
  have n2 : 2 ^ (E + 8) = P * 256 := by rw [Nat.pow_add, ← hP, show 2 ^ 8 = 256 by decide]
  have hP0 : 0 < P := by rw [hP]; exact Nat.pos_of_ne_zero (by simp)
  have hM0 : 0 < M := by rw [hM]; exact Nat.pos_of_ne_zero (by simp)
  have hPM : P * 256 * M ≤ 72057594037927936 := by
    rw [← n2, hM, ← Nat.pow_add, show 72057594037927936 = 2 ^ 56 by decide]
    exact Nat.pow_le_pow_right (by omega) (by omega)
  rw [p1, p2, p3, p4, ← Int.ediv_ediv_of_nonneg (by omega : (0 : Int) ≤ (P : Int)), mod_step _ M hM0]
  have q0 := Int.emod_nonneg (s / (P : Int) / 256) (b := (M : Int)) (by omega)
  have q1 := Int.emod_lt_of_pos (s / (P : Int) / 256) (b := (M : Int)) (by omega)
  have r0 := Int.emod_nonneg (s / (P : Int)) (b := 256) (by omega)
  have r1 := Int.emod_lt_of_pos (s / (P : Int)) (b := 256) (by omega)
  generalize s / (P : Int) / 256 % (M : Int) = q at *
  generalize s / (P : Int) % 256 = r at *
  obtain ⟨q, rfl⟩ := Int.eq_ofNat_of_zero_le q0
  obtain ⟨r, rfl⟩ := Int.eq_ofNat_of_zero_le r0
  clear hP hM hE p1 p2 p3 p4 x1 x2 x3 e hs
  exact take_core P M q r (E + 8) n2 hP0 hPM (by omega) (by omega)
theorem topS_zero (s : Int) (N : Nat) : topS s N 0 = 0 := by
  unfold topS
  rw [show (2 : Int) ^ (8 * 0) = 1 from rfl, Int.emod_one, Int.zero_mul]
theorem topS_all (s : Int) (N : Nat) : topS s N N = s % 2 ^ (8 * N) := by
  unfold topS
  rw [Nat.sub_self, show (2 : Int) ^ (8 * 0) = 1 from rfl, Int.ediv_one, Int.mul_one]
theorem in64_topS {s : Int} (hs : In64 s) {N kk : Nat} (h : kk ≤ N) (hN : N ≤ 7) : In64 (topS s N kk) := by
  cases kk with
  | zero => rw [topS_zero]; simp [In64]
  | succ k =>
    rw [← take_step hs (by omega) hN]
    exact in64_bor _ _
theorem take_range {s : Int} (hs : In64 s) {N A : Nat} (hN : N ≤ 7) (V : Nat → Int) (m : Nat) (hV : ∀ k : Nat, k < m → V k = if (A : Int) ≤ k ∧ (k : Int) < A + N then digV s N (k - A) else 0) :
    takeF A N ((List.range m).map fun (k : Nat) => (0 + (k : Int), V k)) = topS s N (min (m - A) N) := by
  induction m with
  | zero => rw [Nat.zero_sub, Nat.zero_min, topS_zero]; rfl
  | succ m ih =>
    rw [List.range_succ, List.map_append, List.map_singleton, takeF_snoc, ih (fun k hk => hV k (by omega)), takeK_eq _ _ _ _ _ _ (in64_topS hs (Nat.min_le_right _ _) hN)]
    simp only [Int.zero_add]
    rw [hV m (by omega)]
    by_cases h : (A : Int) ≤ m ∧ (m : Int) < A + N
    · rw [if_pos h, if_pos h]
      obtain ⟨kk, rfl⟩ : ∃ kk, m = A + kk := ⟨m - A, by omega⟩
      have e1 : ((A + kk : Nat) : Int) - A = (kk : Int) := by omega
      have e2 : min (A + kk - A) N = kk := by omega
      have e3 : min (A + kk + 1 - A) N = kk + 1 := by omega
      rw [e1, e2, e3]
      exact take_step hs (by omega) hN
    · rw [if_neg h]
      congr 1
      omega
/-- What was laid over noughts is taken as it was. -/
theorem back_law {s : Int} (hs : In64 s) {N A : Nat} (hN : N ≤ 7) (hA : A < 50) : takeV (putV (List.replicate 60 0) A s N 0 60) A N 0 60 = bits .and .i64 s (2 ^ (8 * N) - 1) := by
  rw [band_low hs (by omega), ← topS_all]
  refine (take_range hs hN (fun k => getV (putV (List.replicate 60 0) A s N 0 60) (0 + (k : Int))) 60 (fun k hk => ?_)).trans ?_
  · simp only [Int.zero_add]
    unfold putV
    rw [layV_eq _ _ _ _ (Int.le_refl _) (by simp) (by simp), if_pos (by omega)]
    have hr : ∀ n, k < n → (List.replicate n (0 : Int))[k]? = some 0 := fun n h => by simp [h]
    have : getV (List.replicate 60 0) (k : Int) = 0 := getV_get (hr 60 hk)
    rw [this]
    exact putK_zero A s k N N
  · congr 1
    omega
end Go.Proofs.Ytoipadeeochbnaa
