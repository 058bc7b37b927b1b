import Derived.WalkKit
namespace Go.Proofs.Ytoipadeeochbnaa
open Go Go.RowKit

def In64 (x : Int) : Prop := -9223372036854775808 ≤ x ∧ x ≤ 9223372036854775807
/-- A mask. -/
def mk (b : Bool) : Int := match b with | true => -1 | false => 0
def sel (b : Bool) (x y : Int) : Int := match b with | true => x | false => y

theorem in64_wrap (n : Int) : In64 (wrap64 n) := by unfold In64 wrap64; omega
theorem wrap_in {n : Int} (h : In64 n) : wrap64 n = n := by unfold In64 at h; unfold wrap64; omega
theorem in64_mk (b : Bool) : In64 (mk b) := by cases b <;> simp [mk, In64]
theorem in64_sel {b : Bool} {x y : Int} (hx : In64 x) (hy : In64 y) : In64 (sel b x y) := by cases b <;> simpa [sel]

theorem wrap_toInt (v : BitVec 64) : IntKind.i64.wrap (v.toNat : Int) = v.toInt := by
  rw [IntKind.wrap_i64, BitVec.toInt_eq_toNat_cond]
  have := v.isLt
  split <;> omega
theorem toInt_in (v : BitVec 64) : In64 v.toInt := by
  have h1 := BitVec.le_toInt v
  have h2 := BitVec.toInt_lt (x := v)
  unfold In64; simp at h1 h2; omega
theorem ofInt_toInt {x : Int} (h : In64 x) : (BitVec.ofInt 64 x).toInt = x := by
  rw [BitVec.toInt_ofInt]
  unfold In64 at h
  rw [Int.bmod_eq_of_le] <;> omega
theorem bxor_eq (a b : Int) : bits .xor .i64 a b = (BitVec.ofInt 64 a ^^^ BitVec.ofInt 64 b).toInt := wrap_toInt _
theorem band_eq (a b : Int) : bits .and .i64 a b = (BitVec.ofInt 64 a &&& BitVec.ofInt 64 b).toInt := wrap_toInt _
theorem bor_eq (a b : Int) : bits .or .i64 a b = (BitVec.ofInt 64 a ||| BitVec.ofInt 64 b).toInt := wrap_toInt _
theorem in64_bxor (a b : Int) : In64 (bits .xor .i64 a b) := by rw [bxor_eq]; exact toInt_in _
theorem in64_band (a b : Int) : In64 (bits .and .i64 a b) := by rw [band_eq]; exact toInt_in _
theorem in64_bor (a b : Int) : In64 (bits .or .i64 a b) := by rw [bor_eq]; exact toInt_in _
theorem neg_iff (v : BitVec 64) : decide (v.toInt < 0) = v.msb := (BitVec.msb_eq_toInt (x := v)).symm
theorem msb_ofInt {x : Int} (h : In64 x) : (BitVec.ofInt 64 x).msb = decide (x < 0) := by rw [BitVec.msb_eq_toInt, ofInt_toInt h]
theorem bxor_neg {a b : Int} (ha : In64 a) (hb : In64 b) : decide (bits .xor .i64 a b < 0) = (decide (a < 0) ^^ decide (b < 0)) := by
  rw [bxor_eq, neg_iff, BitVec.msb_xor, msb_ofInt ha, msb_ofInt hb]
theorem band_neg {a b : Int} (ha : In64 a) (hb : In64 b) : decide (bits .and .i64 a b < 0) = (decide (a < 0) && decide (b < 0)) := by
  rw [band_eq, neg_iff, BitVec.msb_and, msb_ofInt ha, msb_ofInt hb]
theorem bor_neg {a b : Int} (ha : In64 a) (hb : In64 b) : decide (bits .or .i64 a b < 0) = (decide (a < 0) || decide (b < 0)) := by
  rw [bor_eq, neg_iff, BitVec.msb_or, msb_ofInt ha, msb_ofInt hb]
theorem bxor_self {a b : Int} (ha : In64 a) (hb : In64 b) : bits .xor .i64 a b = 0 ↔ a = b := by
  rw [bxor_eq]
  constructor
  · intro h
    have h0 : (BitVec.ofInt 64 a ^^^ BitVec.ofInt 64 b) = 0#64 := BitVec.eq_of_toInt_eq (by rw [h]; rfl)
    have h1 : BitVec.ofInt 64 a = BitVec.ofInt 64 b := BitVec.xor_eq_zero_iff.1 h0
    rw [← ofInt_toInt ha, ← ofInt_toInt hb, h1]
  · rintro rfl
    rw [BitVec.xor_self]; rfl

/-- The sign's shift. -/
theorem sign_raw {x : Int} (h : In64 x) : x / 9223372036854775808 = mk (decide (x < 0)) := by
  unfold In64 at h
  by_cases hx : x < 0
  · simp only [hx, decide_true, mk]; omega
  · simp only [hx, decide_false, mk]; omega
theorem decide_lt_zero {x : Int} {b : Bool} (h : decide (x < 0) = b) : mk (decide (x < 0)) = mk b := by rw [h]

theorem less_raw {x y : Int} (hx : In64 x) (hy : In64 y) :
    bits .xor .i64 (wrap64 (x - y)) (bits .and .i64 (bits .xor .i64 x y) (bits .xor .i64 (wrap64 (x - y)) x)) / 9223372036854775808 = mk (decide (x < y)) := by
  have hd := in64_wrap (x - y)
  rw [sign_raw (in64_bxor _ _)]
  congr 1
  rw [bxor_neg hd (in64_band _ _), band_neg (in64_bxor _ _) (in64_bxor _ _), bxor_neg hx hy, bxor_neg hd hx]
  unfold In64 at hx hy
  have hd' : wrap64 (x - y) = x - y ∨ (wrap64 (x - y) = x - y + 18446744073709551616 ∧ x - y < -9223372036854775808) ∨ (wrap64 (x - y) = x - y - 18446744073709551616 ∧ 9223372036854775807 < x - y) := by
    unfold wrap64; omega
  by_cases h1 : x < 0 <;> by_cases h2 : y < 0 <;> by_cases h3 : wrap64 (x - y) < 0 <;> by_cases h4 : x < y <;> simp [h1, h2, h3, h4] <;> omega

theorem bnot_raw (x : Int) (h : In64 x) : In64 (-1 - x) := by unfold In64 at *; omega
theorem bxor_neg1 {x : Int} (h : In64 x) : bits .xor .i64 (-1) x = -1 - x := by
  rw [bxor_eq]
  have h1 : BitVec.ofInt 64 (-1) ^^^ BitVec.ofInt 64 x = ~~~ (BitVec.ofInt 64 x) := by
    rw [show BitVec.ofInt 64 (-1) = BitVec.allOnes 64 from rfl, BitVec.allOnes_xor]
  rw [h1]
  have h2 := ofInt_toInt h
  generalize BitVec.ofInt 64 x = v at *
  rw [BitVec.toInt_eq_toNat_cond] at h2 ⊢
  rw [BitVec.toNat_not]
  have := v.isLt
  split at h2 <;> split <;> omega
theorem equal_raw {x y : Int} (hx : In64 x) (hy : In64 y) :
    mk (decide (-1 - bits .or .i64 (bits .xor .i64 x y) (wrap64 (-(bits .xor .i64 x y))) < 0)) = mk (decide (x = y)) := by
  congr 1
  have hz := bxor_self hx hy
  have hn := bor_neg (in64_bxor x y) (in64_wrap (-(bits .xor .i64 x y)))
  have hd := in64_bxor x y
  generalize bits .xor .i64 x y = d at *
  have h1 : decide (-1 - bits .or .i64 d (wrap64 (-d)) < 0) = !decide (bits .or .i64 d (wrap64 (-d)) < 0) := by
    by_cases h : bits .or .i64 d (wrap64 (-d)) < 0 <;> simp [h] <;> omega
  rw [h1, hn]
  unfold In64 at hd
  by_cases h : x = y
  · have : d = 0 := hz.2 h
    subst this
    simp [h, wrap64]
  · have h0 : d ≠ 0 := fun e => h (hz.1 e)
    have h2 : d < 0 ∨ wrap64 (-d) < 0 := by unfold wrap64; omega
    simp only [h, decide_false, Bool.not_eq_false', Bool.or_eq_true, decide_eq_true_eq]
    exact h2

theorem ofInt_mk (b : Bool) : BitVec.ofInt 64 (mk b) = if b then BitVec.allOnes 64 else 0#64 := by cases b <;> rfl
theorem select_raw (b : Bool) {x y : Int} (hx : In64 x) (hy : In64 y) :
    bits .xor .i64 y (bits .and .i64 (mk b) (bits .xor .i64 x y)) = sel b x y := by
  rw [bxor_eq, band_eq, bxor_eq, BitVec.ofInt_toInt, BitVec.ofInt_toInt, ofInt_mk]
  cases b
  · simp [sel, ofInt_toInt hy]
  · simp only [if_true, BitVec.allOnes_and, sel]
    rw [BitVec.xor_comm (BitVec.ofInt 64 x), ← BitVec.xor_assoc, BitVec.xor_self, BitVec.zero_xor, ofInt_toInt hx]
theorem band_mask (b : Bool) {x : Int} (hx : In64 x) : bits .and .i64 (mk b) x = sel b x 0 := by
  rw [band_eq, ofInt_mk]
  cases b
  · simp [sel]
  · simp only [if_true, BitVec.allOnes_and, sel, ofInt_toInt hx]
theorem bor_zero {x : Int} (hx : In64 x) : bits .or .i64 x 0 = x := by rw [bor_eq]; simp [ofInt_toInt hx]
theorem zero_bor {x : Int} (hx : In64 x) : bits .or .i64 0 x = x := by rw [bor_eq]; simp [ofInt_toInt hx]

/-- A shift's bounds. -/
def clip63 (n : Int) : Int := if n < 0 then 0 else if n > 63 then 63 else n
theorem clip63_bd (n : Int) : 0 ≤ clip63 n ∧ clip63 n ≤ 63 := by unfold clip63; split <;> (try split) <;> omega
end Go.Proofs.Ytoipadeeochbnaa
