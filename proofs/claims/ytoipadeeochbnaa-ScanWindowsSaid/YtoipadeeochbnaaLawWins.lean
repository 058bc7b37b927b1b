import Derived.Test.YtoipadeeochbnaaKnown05
import Derived.Test.YtoipadeeochbnaaScan6
namespace Go.Proofs.Ytoipadeeochbnaa
open Go.RowKit Mix
set_option linter.unusedVariables false
attribute [local go_sem] Mix.calm Oper.quietUpon
theorem winB_count (lo hi j : Int) : countE (winB lo hi) j = (if j = 2 then 1 else 0) + (if j = 1 then 2 * ((winN lo hi : Nat) : Int) else 0) := by
  show countE ([(2, ((winN lo hi : Nat) : Int))] ++ (List.range (winN lo hi)).flatMap fun (k : Nat) => [(1, lo + (k : Int)), (1, lo + (k : Int))]) j = _
  rw [countE_append, rep2_count]
  have e1 : countE [(2, ((winN lo hi : Nat) : Int))] j = if j = 2 then 1 else 0 := by
    by_cases h : j = 2
    · subst h
      simp [countE]
    · have h' : ¬ (2 = j) := fun e => h e.symm
      simp [countE, h, h']
  rw [e1]
  by_cases h : j = 1
  · simp [h]
  · simp [h]
set_option maxRecDepth 100000 in
set_option maxHeartbeats 2000000 in
theorem ScanWindows_walk (n fr to a s : Int) (hn : 0 ≤ n ∧ n ≤ 255) (hfr : 0 ≤ fr ∧ fr ≤ 255) (hto : 0 ≤ to ∧ to ≤ 255) (ha : 0 ≤ a ∧ a ≤ 255) (hs : In64 s) (w : World) :
    Calls Try.prog 18 #[.int .u8 n, .int .u8 fr, .int .u8 to, .int .u8 a, .int .i64 s] w fun e w' => e = .returned (.bool true) ∧ Ext w w' := by
  obtain ⟨hn0, hn1⟩ := hn
  obtain ⟨hf0, hf1⟩ := hfr
  obtain ⟨ht0, ht1⟩ := hto
  obtain ⟨ha0, ha1⟩ := ha
  obtain ⟨m, hm⟩ : ∃ m : Nat, n % 60 = (m : Int) := ⟨(n % 60).toNat, by omega⟩
  have hm60 : m < 60 := by omega
  go_enter Try.func18, Try.ntmps18
  go_wp2_with fail
  refine (New_rc _).mono ?_
  rintro e w1 ⟨rfl, hR1, hE1⟩
  go_wp2_with fail
  rw [hm]
  refine (New_bf (some w.heap.size) [] [w.heap.size] m (by omega) w1 hR1).mono ?_
  rintro e w2 ⟨v2, b, rfl, hB2, hb2, hv2, hE2⟩
  have hE02 := hE1.trans hE2
  have hgF : ∀ x ∈ bfoot b v2 [w.heap.size], w.heap.size ≤ x := fun x hx => by
    have := hE1.size
    simp only [bfoot, List.mem_cons, List.mem_append, List.not_mem_nil, or_false] at hx
    rcases hx with h | h | h
    · omega
    · have := hv2 x h; omega
    · omega
  have hB2' : Bf w2 b (some w.heap.size) (List.replicate m 0) [] _ := ⟨v2, _, hB2, rfl⟩
  generalize bfoot b v2 [w.heap.size] = F2 at *
  clear hB2 hv2 hb2 hR1 hE1 hE2
  go_wp2_with fail
  refine (of_any a _).mono ?_
  rintro e w3 ⟨rfl, hE3⟩
  go_wp2_with fail
  refine (of_any s _).mono ?_
  rintro e w4 ⟨rfl, hE4⟩
  have hE04 := (hE02.trans hE3).trans hE4
  go_wp2_with fail
  have hxl : (List.replicate m (0 : Int)).length = m := by simp
  have hx0 : ∀ x ∈ List.replicate m (0 : Int), In64 x := fun x hx => by rw [(List.mem_replicate.1 hx).2]; simp [In64]
  refine (Store_bf b (some w.heap.size) (List.replicate m 0) [] F2 a s fr to (by unfold In64; omega) hs hx0 (by omega) (.inr (by simp; omega)) w4 ((hB2'.ext hE3).ext hE4)).mono ?_
  rw [hxl]
  rintro e w5 ⟨rfl, F5, ⟨v5, Fr5, hB5, rfl⟩, hT5, hF5⟩
  have hE05 : Ext w w5 := Below.trans hE04 (hT5.below (B := w.heap.size) hgF hE04.size)
  obtain ⟨lo, hlo⟩ : ∃ lo, clipI fr 0 m = lo := ⟨_, rfl⟩
  obtain ⟨hi, hhi⟩ : ∃ hi, clipI to 0 m = hi := ⟨_, rfl⟩
  have bl := clipI_bd fr m
  have bh := clipI_bd to m
  rw [hlo] at bl hB5
  rw [hhi] at bh hB5
  have eg : ∀ k : Nat, k < m → (storeV (List.replicate m 0) a s lo hi)[k]? = some (if lo ≤ (k : Int) ∧ (k : Int) < hi then storeW a s k 0 else 0) := fun k hk => by
    rw [get_getV (by unfold storeV; rw [layV_len]; omega)]
    unfold storeV
    rw [layV_eq _ _ _ _ bl.1 (by rw [hxl]; exact bh.2) (by rw [hxl]; exact bl.2)]
    have : getV (List.replicate m 0) (k : Int) = 0 := getV_get (by simp [hk])
    rw [this]
  have c1 : countE ([] ++ winB lo hi) 1 = 2 * winN lo hi := by rw [List.nil_append, winB_count]; simp
  have c2 : countE ([] ++ winB lo hi) 2 = 1 := by rw [List.nil_append, winB_count]; simp
  have hel : ([] ++ winB lo hi).length ≤ 150 := by rw [List.nil_append, winB_len]; unfold winN; omega
  have hyl : (storeV (List.replicate m 0) a s lo hi).length = m := (layV_len _ _ _ _).trans hxl
  have em1 : (if (m : Int) < fr then (m : Int) else fr) = lo := by rw [← hlo]; unfold clipI; rw [if_neg (show ¬ fr < 0 by omega)]
  have em2 : (if (m : Int) < to then (m : Int) else to) = hi := by rw [← hhi]; unfold clipI; rw [if_neg (show ¬ to < 0 by omega)]
  obtain ⟨c, em3⟩ : ∃ c, (if hi < lo then lo else hi) = c := ⟨_, rfl⟩
  have hlo' := Lib.hid hlo
  have hhi' := Lib.hid hhi
  have eg' := Lib.hid eg
  generalize storeV (List.replicate m 0) a s lo hi = ys at *
  generalize [] ++ winB lo hi = es at *
  clear hT5 hF5 hE3 hE4 hE02 hE04 hB2' hgF hlo hhi eg hx0 hxl
  have hm' := Lib.hid hm
  clear hm
  go_wp2_with fail
  refine (Words_bf b _ ys es v5 Fr5 w5 hB5 (by omega)).mono ?_
  intro e w6 hW
  obtain ⟨aw, cw, rfl, hcell, hE6⟩ := words_form hW
  rw [hyl]
  have hB6 := hB5.turn (Turn.of_ext hE6) (G := []) (by simp)
  have hE06 := hE05.trans hE6
  have hcell' := Lib.hid hcell
  have hcm : lo ≤ c ∧ hi ≤ c ∧ (c = lo ∨ c = hi) := by
    rw [← em3]
    split <;> omega
  obtain ⟨hcl, hch, hco⟩ := hcm
  have hN : (2 : Int) * winN lo hi = 2 * (c - lo) := by unfold winN; omega
  clear hcell hW hB5 em1 em2 em3
  go_wp2
  go_loopw [17] (fun t wr => ∃ k : Nat, k ≤ m ∧ t = .int .i64 k ∧ Ext w6 wr) (fun t _ => m - (intOf t).toNat)
  case atStart => exact ⟨0, Nat.zero_le _, rfl, Ext.refl _⟩
  case round =>
    obtain ⟨k, hk, rfl, hEk⟩ := hrel
    by_cases hlt : k < m
    · obtain ⟨g, rfl, hcy⟩ := hcell'.out wr hEk k _ (eg'.out k hlt)
      by_cases hka : (k : Int) = a
      · have hd3 : ((k : Int) == a) = true := beq_iff_eq.2 hka
        have hka' := Lib.hid hka
        clear hka
        by_cases hlk : lo ≤ (k : Int)
        · by_cases hck : (k : Int) < c
          · have e : (if lo ≤ (k : Int) ∧ (k : Int) < hi then storeW a s k 0 else 0) = s := by
              rw [if_pos ⟨hlk, by omega⟩]
              unfold storeW
              rw [show decide (a = (k : Int)) = true by rw [hka'.out]; simp]
              rfl
            rw [e] at hcy
            clear e
            go_wp2_with fail
            refine (OpenNil_any s _).mono ?_
            rintro e w7 ⟨rfl, hE7⟩
            go_wp2
            go_roundw
            case rel => exact ⟨k + 1, by omega, by go_num, hEk.trans hE7⟩
            case measure => simp [intOf]; omega
          · have e : (if lo ≤ (k : Int) ∧ (k : Int) < hi then storeW a s k 0 else 0) = 0 := by rw [if_neg (by omega)]
            rw [e] at hcy
            clear e
            go_wp2_with fail
            refine (OpenNil_any 0 _).mono ?_
            rintro e w7 ⟨rfl, hE7⟩
            go_wp2
            go_roundw
            case rel => exact ⟨k + 1, by omega, by go_num, hEk.trans hE7⟩
            case measure => simp [intOf]; omega
        · have e : (if lo ≤ (k : Int) ∧ (k : Int) < hi then storeW a s k 0 else 0) = 0 := by rw [if_neg (by omega)]
          rw [e] at hcy
          clear e
          go_wp2_with fail
          refine (OpenNil_any 0 _).mono ?_
          rintro e w7 ⟨rfl, hE7⟩
          go_wp2
          go_roundw
          case rel => exact ⟨k + 1, by omega, by go_num, hEk.trans hE7⟩
          case measure => simp [intOf]; omega
      · have e : (if lo ≤ (k : Int) ∧ (k : Int) < hi then storeW a s k 0 else 0) = 0 := by
          split
          · unfold storeW
            rw [show decide (a = (k : Int)) = false by simp; omega]
            rfl
          · rfl
        rw [e] at hcy
        clear e
        go_wp2_with fail
        refine (OpenNil_any 0 _).mono ?_
        rintro e w7 ⟨rfl, hE7⟩
        go_wp2
        go_roundw
        case rel => exact ⟨k + 1, by omega, by go_num, hEk.trans hE7⟩
        case measure => simp [intOf]; omega
    · have hE07 := hE06.trans hEk
      have hB7 := hB6.turn (Turn.of_ext hEk) (G := []) (by simp)
      go_wp2_with fail
      refine (known05_any _).mono ?_
      rintro e w8 ⟨rfl, hE8⟩
      have hB8 := hB7.turn (Turn.of_ext hE8) (G := []) (by simp)
      go_wp2_with fail
      refine (Count_rc _ es _ 1 w8 hB8.rc (by omega)).mono ?_
      rw [c1, hN]
      rintro e w9 ⟨rfl, hE9⟩
      have hB9 := hB8.turn (Turn.of_ext hE9) (G := []) (by simp)
      go_wp2_with fail
      refine (Count_rc _ es _ 2 w9 hB9.rc (by omega)).mono ?_
      rw [c2]
      rintro e w10 ⟨rfl, hE10⟩
      go_wp2
      go_ret
      exact ⟨rfl, ((hE07.trans hE8).trans hE9).trans hE10⟩
end Go.Proofs.Ytoipadeeochbnaa
