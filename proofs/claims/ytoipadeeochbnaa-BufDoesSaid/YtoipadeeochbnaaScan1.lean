import Derived.Test.YtoipadeeochbnaaBuf6
import Derived.Test.YtoipadeeochbnaaBuf5
namespace Go.Proofs.Ytoipadeeochbnaa
open Go.RowKit Mix
set_option linter.unusedVariables false
attribute [local go_sem] Mix.calm Oper.quietUpon
def clipI (n lo hi : Int) : Int := if n < lo then lo else if hi < n then hi else n
theorem NumClip_any (n lo hi : Int) (w : World) : Calls Try.prog 134 #[.int .i64 n, .int .i64 lo, .int .i64 hi] w fun e w' => e = .returned (.int .i64 (clipI n lo hi)) ∧ w = w' := by
  by_cases h1 : n < lo
  · have e : clipI n lo hi = lo := by unfold clipI; rw [if_pos h1]
    rw [e]
    go_enter Try.func134, Try.ntmps134
    go_wp2
    go_ret
    exact ⟨rfl, rfl⟩
  · by_cases h2 : hi < n
    · have e : clipI n lo hi = hi := by unfold clipI; rw [if_neg h1, if_pos h2]
      rw [e]
      go_enter Try.func134, Try.ntmps134
      go_wp2
      go_ret
      exact ⟨rfl, rfl⟩
    · have e : clipI n lo hi = n := by unfold clipI; rw [if_neg h1, if_neg h2]
      rw [e]
      go_enter Try.func134, Try.ntmps134
      go_wp2
      go_ret
      exact ⟨rfl, rfl⟩
theorem clipI_bd (n : Int) (m : Nat) : 0 ≤ clipI n 0 m ∧ clipI n 0 m ≤ m := by unfold clipI; split <;> (try split) <;> omega
/-- What the iterator's boxes hold. -/
structure WinS (b : Nat) (p : Option Nat) (lo hi : Int) (B : Nat) (W : World) : Prop where
  b3 : Boxed W B 32 (.pointer (some ⟨b, 0, none⟩))
  b4 : Boxed W (B + 1) 3 (.int .i64 lo)
  b5 : Boxed W (B + 2) 3 (.int .i64 hi)
  bc : ∃ v, W.heap[b]? = some (.cells #[ptr p, v] 152 (0, 0))
theorem WinS.ext {b : Nat} {p : Option Nat} {lo hi : Int} {B : Nat} {W W' : World} (h : WinS b p lo hi B W) (k : Ext W W') : WinS b p lo hi B W' :=
  ⟨k.blk h.b3, k.blk h.b4, k.blk h.b5, let ⟨v, hv⟩ := h.bc; ⟨v, k.blk hv⟩⟩
theorem Len_cell (b : Nat) (q : Value) (a : Option Addr) (n c : Nat) (w : World) (h : w.heap[b]? = some (.cells #[q, .slice a n c] 152 (0, 0))) :
    Calls Try.prog 37 #[.pointer (some ⟨b, 0, none⟩)] w fun e w' => e = .returned (.int .i64 n) ∧ w = w' := by
  have hc : w.cell? ⟨b, 1, none⟩ = some (.slice a n c) := by rw [blk_cell h]; rfl
  go_enter Try.func37, Try.ntmps37
  go_wp2
  go_ret
  exact ⟨rfl, rfl⟩
theorem Trace_cell (b : Nat) (p : Option Nat) (v : Value) (w : World) (h : w.heap[b]? = some (.cells #[ptr p, v] 152 (0, 0))) :
    Calls Try.prog 64 #[.pointer (some ⟨b, 0, none⟩)] w fun e w' => e = .returned (ptr p) ∧ w = w' := by
  have hc : w.cell? ⟨b, 0, none⟩ = some (ptr p) := by rw [blk_cell h]; rfl
  go_enter Try.func64, Try.ntmps64
  go_wp2
  go_ret
  exact ⟨rfl, rfl⟩
/-- What window hands back. -/
def WOutF (b : Nat) (p : Option Nat) (lo hi : Int) (w : World) (e : Ending) (w' : World) : Prop :=
  e = .returned (.func (.func 166) #[] #[.pointer (some ⟨w.heap.size, 0, none⟩), .pointer (some ⟨w.heap.size + 2, 0, none⟩), .pointer (some ⟨w.heap.size + 1, 0, none⟩)]) ∧ WinS b p lo hi w.heap.size w' ∧ Ext w w'
set_option maxRecDepth 100000 in
theorem window_any (b : Nat) (p : Option Nat) (xs : List Int) (es : List (Int × Int)) (v : Value) (Fr : List Nat) (fr to : Int) (w : World) (h : BufAt w b p xs es v Fr) :
    Calls Try.prog 127 #[.pointer (some ⟨b, 0, none⟩), .int .i64 fr, .int .i64 to] w (WOutF b p (clipI fr 0 xs.length) (clipI to 0 xs.length) w) := by
  obtain ⟨a, c, rfl⟩ := own_form h.row
  have hbl := blk_lt h.cell
  go_enter Try.func127, Try.ntmps127
  go_wp2
  have hE : Ext w (((w.alloc (.cells #[.pointer (some ⟨b, 0, none⟩)] 32)).alloc (.cells #[.int .i64 fr] 3)).alloc (.cells #[.int .i64 to] 3)) := (((Ext.refl w).alloc' _).alloc' _).alloc' _
  have k3 : Boxed (((w.alloc (.cells #[.pointer (some ⟨b, 0, none⟩)] 32)).alloc (.cells #[.int .i64 fr] 3)).alloc (.cells #[.int .i64 to] 3)) w.heap.size 32 (.pointer (some ⟨b, 0, none⟩)) := ((Boxed.new w _ _).alloc _).alloc _
  have k4 : Boxed (((w.alloc (.cells #[.pointer (some ⟨b, 0, none⟩)] 32)).alloc (.cells #[.int .i64 fr] 3)).alloc (.cells #[.int .i64 to] 3)) (w.heap.size + 1) 3 (.int .i64 fr) := by
    have := (Boxed.new (w.alloc (.cells #[.pointer (some ⟨b, 0, none⟩)] 32)) 3 (.int .i64 fr)).alloc (.cells #[.int .i64 to] 3)
    rwa [World.size_alloc] at this
  have k5 : Boxed (((w.alloc (.cells #[.pointer (some ⟨b, 0, none⟩)] 32)).alloc (.cells #[.int .i64 fr] 3)).alloc (.cells #[.int .i64 to] 3)) (w.heap.size + 2) 3 (.int .i64 to) := by
    have := Boxed.new ((w.alloc (.cells #[.pointer (some ⟨b, 0, none⟩)] 32)).alloc (.cells #[.int .i64 fr] 3)) 3 (.int .i64 to)
    rwa [World.size_alloc, World.size_alloc] at this
  have kb := hE.blk h.cell
  generalize ((w.alloc (.cells #[.pointer (some ⟨b, 0, none⟩)] 32)).alloc (.cells #[.int .i64 fr] 3)).alloc (.cells #[.int .i64 to] 3) = w1 at *
  have l3 := k3.lt
  have l4 := k4.lt
  have l5 := k5.lt
  refine Mix.wp_region_mixK [w.heap.size, w.heap.size + 1, w.heap.size + 2, b] (.c 0 (.c 1 (.c 2 (.c 3 (.c 4 (.c 5 (.c 6 (.c 7 (.e 8 (.e 9 .done)))))))))) (by kernel_rfl) (by kernel_rfl) (by simp; have := blk_lt kb; omega) ?_
  have c3 := Mix.Keeps.cell (L := [w.heap.size, w.heap.size + 1, w.heap.size + 2, b]) (by simp) k3.cell
  have c4 := Mix.Keeps.cell (L := [w.heap.size, w.heap.size + 1, w.heap.size + 2, b]) (by simp) k4.cell
  have c5 := Mix.Keeps.cell (L := [w.heap.size, w.heap.size + 1, w.heap.size + 2, b]) (by simp) k5.cell
  have cl : ∀ y : Mix.Yw (Mix.Keeps w1 [w.heap.size, w.heap.size + 1, w.heap.size + 2, b]), Calls Try.prog 37 #[.pointer (some ⟨b, 0, none⟩)] y.w fun e w' => e = .returned (.int .i64 xs.length) ∧ y.w = w' :=
    fun y => Len_cell b _ a _ c y.w ((y.h b (by simp)).trans kb)
  repeat (first | (refine Mix.mix_q rfl rfl rfl (fun K hK => ?_); (conv => arg 2; whnf); (first | (go_big_quiet_op; refine hK _ ?_) | (go_simp; refine hK _ ?_)); clear hK K) | (refine Mix.mix_nilK rfl rfl rfl rfl (fun K hK => ?_); (conv => arg 1; whnf); go_simp; refine hK _ ?_; clear hK K))
  (refine Mix.mix_c rfl rfl (fun K hK => ?_); (conv => arg 2; whnf); go_simp; apply Exists.intro; refine ⟨fun _ => ?_, hK _ ?_⟩; exact Mix.se (cl _); clear hK K)
  repeat (first | (refine Mix.mix_q rfl rfl rfl (fun K hK => ?_); (conv => arg 2; whnf); (first | (go_big_quiet_op; refine hK _ ?_) | (go_simp; refine hK _ ?_)); clear hK K) | (refine Mix.mix_nilK rfl rfl rfl rfl (fun K hK => ?_); (conv => arg 1; whnf); go_simp; refine hK _ ?_; clear hK K))
  (refine Mix.mix_c rfl rfl (fun K hK => ?_); (conv => arg 2; whnf); go_simp; apply Exists.intro; refine ⟨fun _ => ?_, hK _ ?_⟩; exact Mix.se (NumClip_any _ _ _ _); clear hK K)
  repeat (first | (refine Mix.mix_q rfl rfl rfl (fun K hK => ?_); (conv => arg 2; whnf); (first | (go_big_quiet_op; refine hK _ ?_) | (go_simp; refine hK _ ?_)); clear hK K) | (refine Mix.mix_nilK rfl rfl rfl rfl (fun K hK => ?_); (conv => arg 1; whnf); go_simp; refine hK _ ?_; clear hK K))
  (refine Mix.mix_c rfl rfl (fun K hK => ?_); (conv => arg 2; whnf); go_simp; apply Exists.intro; refine ⟨fun _ => ?_, hK _ ?_⟩; exact Mix.se (cl _); clear hK K)
  repeat (first | (refine Mix.mix_q rfl rfl rfl (fun K hK => ?_); (conv => arg 2; whnf); (first | (go_big_quiet_op; refine hK _ ?_) | (go_simp; refine hK _ ?_)); clear hK K) | (refine Mix.mix_nilK rfl rfl rfl rfl (fun K hK => ?_); (conv => arg 1; whnf); go_simp; refine hK _ ?_; clear hK K))
  (refine Mix.mix_c rfl rfl (fun K hK => ?_); (conv => arg 2; whnf); go_simp; apply Exists.intro; refine ⟨fun _ => ?_, hK _ ?_⟩; exact Mix.se (NumClip_any _ _ _ _); clear hK K)
  repeat (first | (refine Mix.mix_q rfl rfl rfl (fun K hK => ?_); (conv => arg 2; whnf); (first | (go_big_quiet_op; refine hK _ ?_) | (go_simp; refine hK _ ?_)); clear hK K) | (refine Mix.mix_nilK rfl rfl rfl rfl (fun K hK => ?_); (conv => arg 1; whnf); go_simp; refine hK _ ?_; clear hK K))
  refine Mix.mix_late rfl rfl (by kernel_rfl) (fun w2 hE2 K hK => ?_)
  (conv => arg 2; whnf)
  have E2 : Ext w1 w2 := (Ext.refl w1).drew'.trans hE2
  have k4' := E2.blk k4
  have d4 := blk_cell k4' 0
  have e4 := blk_free k4' 0
  go_big_op
  refine hK _ _ ?_
  clear hK K
  refine Mix.mix_last rfl rfl (by kernel_rfl) (fun w3 hE3 K hK => ?_)
  (conv => arg 2; whnf)
  have k5' : w3.heap[w.heap.size + 2]? = some (.cells #[.int .i64 to] 3 (0, 0)) := hE3.blk ((Below.heap_setCell _ _ _ _ (by simp)).trans (E2.blk k5))
  have d5 : w3.cell? ⟨w.heap.size + 1 + 1, 0, none⟩ = some (.int .i64 to) := blk_cell k5' 0
  have e5 : w3.frozen? ⟨w.heap.size + 1 + 1, 0, none⟩ = false := blk_free k5' 0
  go_big_op
  refine hK _ _ (fun w4 hE4 => ?_)
  clear hK K
  (try dsimp only [Exit.then])
  have f3 : w3.heap[w.heap.size]? = _ := hE3.blk ((Below.heap_setCell _ _ _ _ (by simp)).trans (E2.blk k3))
  have f4 : w3.heap[w.heap.size + 1]? = _ := hE3.blk (blk_set (v := .int .i64 (clipI fr 0 xs.length)) (E2.blk k4))
  have fb : w3.heap[b]? = _ := hE3.blk ((Below.heap_setCell _ _ _ _ (by simp; omega)).trans (E2.blk kb))
  have g3 := hE4.blk ((Below.heap_setCell w3 ⟨w.heap.size + 1 + 1, 0, none⟩ (.int .i64 (clipI to 0 xs.length)) w.heap.size (by simp; omega)).trans f3)
  have g4 := hE4.blk ((Below.heap_setCell w3 ⟨w.heap.size + 1 + 1, 0, none⟩ (.int .i64 (clipI to 0 xs.length)) (w.heap.size + 1) (by simp)).trans f4)
  have gb := hE4.blk ((Below.heap_setCell w3 ⟨w.heap.size + 1 + 1, 0, none⟩ (.int .i64 (clipI to 0 xs.length)) b (by simp; omega)).trans fb)
  have g5 := hE4.blk (blk_set (o := 0) (v := .int .i64 (clipI to 0 xs.length)) k5')
  have hEe : Ext w w4 := (((hE.trans E2).set' (by simp) _).trans hE3 |>.set' (by simp; omega) _).trans hE4
  clear c3 c4 c5 cl d4 e4 d5 e5 k4' k5' f3 f4 fb
  go_wp2
  go_ret
  exact ⟨rfl, ⟨g3, g4, g5, _, gb⟩, hEe⟩
end Go.Proofs.Ytoipadeeochbnaa
