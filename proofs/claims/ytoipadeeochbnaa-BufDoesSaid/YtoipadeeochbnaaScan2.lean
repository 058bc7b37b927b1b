import Derived.Test.YtoipadeeochbnaaScan1
import Derived.Test.YtoipadeeochbnaaRange
import Derived.OwnWalkIn
import Derived.TacticsInMore
import Derived.LoopNIn
import Derived.LoopIn
namespace Go.Proofs.Ytoipadeeochbnaa
open Go.RowKit Mix
set_option linter.unusedVariables false
attribute [local go_sem] Mix.calm Oper.quietUpon Oper.semAt_some
def encW (e : Int × Int) : Array Value := #[.int .i64 e.1, .agg #[.int .i64 e.2]]
/-- How many places a window has; what comes of them. -/
def winN (lo hi : Int) : Nat := (hi - lo).toNat
def winL (lo hi : Int) (val : Nat → Int) : List (Int × Int) := (List.range (winN lo hi)).map fun (k : Nat) => (lo + (k : Int), val k)
theorem winL_len (lo hi : Int) (val : Nat → Int) : (winL lo hi val).length = winN lo hi := by simp [winL]
theorem winL_get (lo hi : Int) (val : Nat → Int) {k : Nat} (h : k < winN lo hi) : (winL lo hi val)[k]? = some (lo + (k : Int), val k) := by simp [winL, h]
theorem winL_step (lo hi : Int) (val : Nat → Int) {k : Nat} (h : k < winN lo hi) : (winL lo hi val).take k ++ [(lo + (k : Int), val k)] = (winL lo hi val).take (k + 1) := by
  rw [List.take_add_one, winL_get lo hi val h]
  rfl
set_option maxHeartbeats 1000000 in
set_option maxRecDepth 100000 in
theorem window1_gives (b : Nat) (p : Option Nat) (lo hi : Int) (hlo : 0 ≤ lo ∧ lo ≤ 1048576) (hhi : 0 ≤ hi ∧ hi ≤ 1048576) (Bx B : Nat) (val : Nat → Int)
    (J0 : World → Prop) (J : List (Int × Int) → World → Prop) (Jy : List (Int × Int) → Int × Int → World → Prop)
    (hS0 : ∀ W, J0 W → WinS b p lo hi Bx W) (hS : ∀ pre W, J pre W → WinS b p lo hi Bx W)
    (hE0 : ∀ W W', J0 W → Ext W W' → J0 W') (hE : ∀ pre W W', J pre W → Ext W W' → J pre W')
    (hBr : ∀ W, J0 W → Calls Try.prog 167 #[ptr p, .int .i64 (winN lo hi)] W fun e W' => e = .returned (.tuple #[]) ∧ J [] W' ∧ KeepsFrom B W W')
    (hGet : ∀ (k : Nat) W, k < winN lo hi → J ((winL lo hi val).take k) W → Calls Try.prog 35 #[.pointer (some ⟨b, 0, none⟩), .int .i64 (lo + (k : Int))] W fun e W' =>
      e = .returned (.agg #[.int .i64 (val k)]) ∧ Jy ((winL lo hi val).take k) (lo + (k : Int), val k) W' ∧ KeepsFrom B W W') :
    Gives Try.prog 166 #[] #[.pointer (some ⟨Bx, 0, none⟩), .pointer (some ⟨Bx + 2, 0, none⟩), .pointer (some ⟨Bx + 1, 0, none⟩)] encW B J0 J Jy (winL lo hi val) := by
  intro l K W hK hk h0 hY
  obtain ⟨hlo0, hlo1⟩ := hlo
  obtain ⟨hhi0, hhi1⟩ := hhi
  have sW := hS0 W h0
  have hext : ∀ A A', K A → Ext A A' → K A' := fun A A' h k => hK A A' h ⟨k.size, fun k' o _ hk' _ => k.blk hk'⟩
  have hext' := Lib.hid hext
  have hBr' := Lib.hid hBr
  have hGet' := Lib.hid hGet
  have hS' := Lib.hid hS
  have hE' := Lib.hid hE
  have hY' := Lib.hid hY
  have hE0' := Lib.hid hE0
  have hK' := Lib.hid hK
  clear hBr hGet hS hE hY hS0 hE0 hK hext
  refine callsIn_of_wp Try.func166 rfl trivial ?_ rfl
  simp only [Try.ntmps166, List.size_toArray, List.length_cons, List.length_nil, Nat.reduceAdd, Nat.reduceSub, Array.replicate_succ, Array.replicate_zero, List.push_toArray, List.append_toArray, List.nil_append, List.cons_append]
  gi_wp2
  refine wpIn_wide.2 ?_
  haveI : Inhabited (Mix.Yw (WinS b p lo hi Bx)) := ⟨⟨W, sW⟩⟩
  refine Mix.wp_region_mixY (WinS b p lo hi Bx) (.c 0 (.c 1 (.c 2 (.c 3 (.c 4 (.c 5 (.e 6 .done))))))) (by kernel_rfl) (by kernel_rfl) (fun _ _ h k => h.ext k) (sW.ext (Ext.drew W)) ?_
  have d3 : ∀ y : Mix.Yw (WinS b p lo hi Bx), y.w.cell? ⟨Bx, 0, none⟩ = some (.pointer (some ⟨b, 0, none⟩)) := fun y => y.h.b3.cell
  have d4 : ∀ y : Mix.Yw (WinS b p lo hi Bx), y.w.cell? ⟨Bx + 1, 0, none⟩ = some (.int .i64 lo) := fun y => y.h.b4.cell
  have d5 : ∀ y : Mix.Yw (WinS b p lo hi Bx), y.w.cell? ⟨Bx + 2, 0, none⟩ = some (.int .i64 hi) := fun y => y.h.b5.cell
  have cl : ∀ y : Mix.Yw (WinS b p lo hi Bx), Calls Try.prog 64 #[.pointer (some ⟨b, 0, none⟩)] y.w fun e w' => e = .returned (ptr p) ∧ y.w = w' := fun y => let ⟨v, hv⟩ := y.h.bc; Trace_cell b p v y.w hv
  repeat (refine Mix.mix_q rfl rfl rfl (fun K hK => ?_); (conv => arg 2; whnf); (first | (go_big_quiet_op; refine hK _ ?_) | (go_simp; refine hK _ ?_)); clear hK K)
  (refine Mix.mix_c rfl rfl (fun K hK => ?_); (conv => arg 2; whnf); go_simp; apply Exists.intro; refine ⟨fun _ => ?_, hK _ ?_⟩; exact Mix.se (cl _); clear hK K)
  repeat (refine Mix.mix_q rfl rfl rfl (fun K hK => ?_); (conv => arg 2; whnf); (first | (go_big_quiet_op; refine hK _ ?_) | (go_simp; refine hK _ ?_)); clear hK K)
  have em : (if hi - lo < 0 then (0 : Int) else hi - lo) = ((winN lo hi : Nat) : Int) := by unfold winN; split <;> omega
  rw [em]
  clear em
  refine Mix.mix_one rfl rfl (fun w3 hE3 K2 hK2 => ?_)
  (conv => arg 2; whnf)
  have E3 : Ext W w3 := (Ext.refl W).drew'.trans hE3
  have hk3 := hext'.out _ _ hk E3
  go_big_op
  refine (hBr'.out w3 (hE0'.out _ _ h0 E3)).mono ?_
  rintro e w4 ⟨rfl, hJ4, hk4⟩
  have hK4 := hK'.out _ _ hk3 hk4
  refine hK2 _ _ (Mix.yes (hS'.out _ _ hJ4)) ?_
  clear hK2 K2
  refine Mix.mix_nil (fun w5 hE5 => ?_)
  (try dsimp only [Exit.then])
  have hJ5 := hE'.out _ _ _ hJ4 hE5
  have hK5 := hext'.out _ _ hK4 hE5
  have s5 := hS'.out _ _ hJ5
  have c4 := s5.b4.cell
  clear d3 d4 d5 cl sW h0 hk hk3 hJ4 hK4 hk4 hE5 E3 hE3
  gi_wp2
  gi_loopw [5] (fun t wr => ∃ k : Nat, k ≤ winN lo hi ∧ t = .int .i64 (lo + (k : Int)) ∧ J ((winL lo hi val).take k) wr ∧ K wr) (fun t _ => hi.toNat - (intOf t).toNat)
  case atStart => exact ⟨0, Nat.zero_le _, by simp, hJ5, hK5⟩
  case round =>
    clear s5 c4 hJ5 hK5
    obtain ⟨k, hkn, rfl, hJr, hKr⟩ := hrel
    have sr := hS'.out _ _ hJr
    have c3 := sr.b3.cell
    have c5 := sr.b5.cell
    by_cases hlt : k < winN lo hi
    · have hlt2 : lo + (k : Int) < hi := by unfold winN at hlt; omega
      have hpre : (winL lo hi val).take k ++ [(lo + (k : Int), val k)] <+: winL lo hi val := by rw [winL_step lo hi val hlt]; exact List.take_prefix _ _
      have hsn := winL_step lo hi val hlt
      have hsn' := Lib.hid hsn
      clear hsn
      gi_wp2_with (refine ⟨trivial, ?_⟩; gi_at_call 35; refine (callsIn_wide.2 (hGet'.out k _ hlt hJr)).mono ?_; rintro e w6 ⟨rfl, hJ6, hk6⟩; have hK6 := hK'.out _ _ hKr hk6; obtain ⟨fn, tmps, asg, bod, hy, hRd⟩ := hY'.out _ _ w6 hpre hJ6 hK6; simp only [encW] at hy)
      rw [hsn'.out] at hRd
      refine hRd.mono ?_
      rintro e' W' ⟨rfl, hj', hk'⟩
      gi_wp2
      go_roundw
      case rel => exact ⟨k + 1, by omega, by congr 1; omega, hj', hk'⟩
      case measure => simp [intOf]; omega
    · have hkn2 : k = winN lo hi := by omega
      have hge : hi ≤ lo + (k : Int) := by unfold winN at hkn2; omega
      have hkn' := Lib.hid hkn2
      clear hkn2
      gi_wp2
      go_end0
      have e := hkn'.out
      rw [e, ← winL_len lo hi val, List.take_length] at hJr
      exact ⟨⟨_, rfl⟩, hJr, hKr⟩
end Go.Proofs.Ytoipadeeochbnaa
