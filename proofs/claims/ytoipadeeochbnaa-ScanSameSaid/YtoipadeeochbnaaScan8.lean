import Derived.Test.YtoipadeeochbnaaScan7
namespace Go.Proofs.Ytoipadeeochbnaa
open Go.RowKit Mix
set_option linter.unusedVariables false
attribute [local go_sem] Mix.calm Oper.quietUpon Oper.semAt_some
def putV (xs : List Int) (a s : Int) (N : Nat) (lo hi : Int) : List Int := layV (putW a s N) xs lo hi
theorem boxes4 (w : World) (t0 t1 t2 t3 : TypeId) (v0 v1 v2 v3 : Value) : ∀ W, W = (((w.alloc (.cells #[v0] t0)).alloc (.cells #[v1] t1)).alloc (.cells #[v2] t2)).alloc (.cells #[v3] t3) →
    Ext w W ∧ Boxed W w.heap.size t0 v0 ∧ Boxed W (w.heap.size + 1) t1 v1 ∧ Boxed W (w.heap.size + 2) t2 v2 ∧ Boxed W (w.heap.size + 3) t3 v3 := by
  rintro W rfl
  refine ⟨((((Ext.refl w).alloc' _).alloc' _).alloc' _).alloc' _, (((Boxed.new w _ _).alloc _).alloc _).alloc _, ?_, ?_, ?_⟩
  · have := ((Boxed.new (w.alloc (.cells #[v0] t0)) t1 v1).alloc (.cells #[v2] t2)).alloc (.cells #[v3] t3)
    rwa [World.size_alloc] at this
  · have := (Boxed.new ((w.alloc (.cells #[v0] t0)).alloc (.cells #[v1] t1)) t2 v2).alloc (.cells #[v3] t3)
    rwa [World.size_alloc, World.size_alloc] at this
  · have := Boxed.new (((w.alloc (.cells #[v0] t0)).alloc (.cells #[v1] t1)).alloc (.cells #[v2] t2)) t3 v3
    rwa [World.size_alloc, World.size_alloc, World.size_alloc] at this
set_option maxHeartbeats 2000000 in
set_option maxRecDepth 100000 in
theorem Put_bf (b : Nat) (p : Option Nat) (xs : List Int) (es : List (Int × Int)) (F : List Nat) (a s n fr to : Int) (ha : In64 a) (hs : In64 s) (hxs : ∀ x ∈ xs, In64 x) (hx : xs.length ≤ 1000) (hl : p = none ∨ es.length + 1 + 2 * xs.length ≤ 316) (w : World) (h : Bf w b p xs es F) :
    Calls Try.prog 78 #[.pointer (some ⟨b, 0, none⟩), .agg #[.int .i64 a], .agg #[.int .i64 s], .int .i64 n, .int .i64 fr, .int .i64 to] w
      (BTold (.tuple #[]) b p (putV xs a s (clipI n 0 8).toNat (clipI fr 0 xs.length) (clipI to 0 xs.length)) (es ++ winB (clipI fr 0 xs.length) (clipI to 0 xs.length)) F w) := by
  have hFlt := h.lt
  have hlo := clipI_bd fr xs.length
  have hhi := clipI_bd to xs.length
  obtain ⟨lo, hloe⟩ : ∃ lo, lo = clipI fr 0 xs.length := ⟨_, rfl⟩
  obtain ⟨hi, hhie⟩ : ∃ hi, hi = clipI to 0 xs.length := ⟨_, rfl⟩
  rw [← hloe] at hlo ⊢
  rw [← hhie] at hhi ⊢
  have hn : winN lo hi ≤ xs.length := by unfold winN; omega
  refine (callsIn_wide (n := 9)).1 (callsIn_of_wp_marks Try.func78 rfl trivial ?_ rfl)
  simp only [Try.ntmps78, List.size_toArray, List.length_cons, List.length_nil, Nat.reduceAdd, Nat.reduceSub, Array.replicate_succ, Array.replicate_zero, List.push_toArray, List.append_toArray, List.nil_append, List.cons_append]
  have hloe' := Lib.hid hloe
  have hhie' := Lib.hid hhie
  clear hloe hhie
  obtain ⟨N, hN⟩ : ∃ N : Nat, clipI n 0 8 = (N : Int) := ⟨(clipI n 0 8).toNat, by unfold clipI; split <;> (try split) <;> omega⟩
  have hN8 : N ≤ 8 := by
    have : clipI n 0 8 ≤ 8 := by unfold clipI; split <;> (try split) <;> omega
    omega
  rw [hN, Int.toNat_natCast]
  have mN := fun W => NumClip_any n 0 8 W
  rw [hN] at mN
  clear hN
  gi_wp2_with fail
  obtain ⟨W0, hW0⟩ : ∃ W0, W0 = (((w.alloc (.cells #[.pointer (some ⟨b, 0, none⟩)] 32)).alloc (.cells #[.int .i64 a] 25)).alloc (.cells #[.int .i64 s] 25)).alloc (.cells #[.int .i64 n] 3) := ⟨_, rfl⟩
  obtain ⟨hE0, kB0, kA0, kS0, kN0⟩ := boxes4 w _ _ _ _ _ _ _ _ W0 hW0
  rw [← hW0]
  clear hW0
  refine ⟨trivial, (callsIn_wide.2 (mN _)).mono ?_⟩
  rintro e w0 ⟨rfl, rfl⟩
  clear mN
  have zN := kN0.lt
  have cB0 : W0.cell? ⟨w.heap.size, 0, none⟩ = some (.pointer (some ⟨b, 0, none⟩)) := kB0.cell
  have cN0 : W0.cell? ⟨w.heap.size + 1 + 1 + 1, 0, none⟩ = some (.int .i64 n) := kN0.cell
  have fN0 : W0.frozen? ⟨w.heap.size + 1 + 1 + 1, 0, none⟩ = false := kN0.frozen
  gi_wp2_with fail
  obtain ⟨w1, hw1⟩ : ∃ w1, w1 = W0.setCell ⟨w.heap.size + 1 + 1 + 1, 0, none⟩ (.int .i64 (N : Int)) := ⟨_, rfl⟩
  have tN : Turn [w.heap.size + 3] W0 w1 := by rw [hw1]; exact turn_set (by simp)
  have hE1 : Ext w w1 := by rw [hw1]; exact hE0.set' (by simp; omega) _
  have kB := boxed_turn kB0 tN (by simp)
  have kA := boxed_turn kA0 tN (by simp)
  have kS := boxed_turn kS0 tN (by simp)
  have kN : Boxed w1 (w.heap.size + 3) 3 (.int .i64 (N : Int)) := by rw [hw1]; exact Boxed.set _ kN0
  rw [← hw1]
  clear hw1 kB0 kA0 kS0 kN0 cN0 cB0 fN0 tN hE0
  have zS := kN.lt
  obtain ⟨v0, Fr0, hB0, hF0⟩ := h.ext hE1
  refine ⟨trivial, (callsIn_wide.2 (window_any b p xs es v0 Fr0 fr to _ hB0)).mono ?_⟩
  rw [← hloe'.out, ← hhie'.out]
  rintro e w4 ⟨rfl, hW4, hE4⟩
  have kB4 : Boxed w4 w.heap.size 32 (.pointer (some ⟨b, 0, none⟩)) := hE4.blk kB
  have kA4 : Boxed w4 (w.heap.size + 1) 25 (.int .i64 a) := hE4.blk kA
  have kN4 : Boxed w4 (w.heap.size + 3) 3 (.int .i64 (N : Int)) := hE4.blk kN
  have kS4 : Boxed w4 (w.heap.size + 2) 25 (.int .i64 s) := hE4.blk kS
  have hE04 := hE1.trans hE4
  have hB4 := h.ext hE04
  have zW := hW4.b5.lt
  have zw := hE04.size
  have hnO : ∀ x, w.heap.size ≤ x → x ∉ ([] : List Nat) ++ F := fun x hx hm => by
    have := hFlt x (by simpa using hm)
    omega
  have hst0 : St w4 [] F b p xs es w4 := ⟨F, hB4, fun x hx => .inl hx, Turn.refl _ _⟩
  clear hB0 hF0 hE4 kB kA kS kN
  have hgive := window1_gives b p lo hi ⟨hlo.1, by omega⟩ ⟨hhi.1, by omega⟩ w1.heap.size w4.heap.size (fun k => getV xs (lo + (k : Int)))
    (St w4 [] F b p xs es) (SJ w4 F b p (putW a s N) xs es lo hi) (SY w4 F b p (putW a s N) xs es lo hi)
    (fun W h => h.win hW4 ⟨hnO _ (by omega), hnO _ (by omega), hnO _ (by omega)⟩)
    (fun pre W h => St.win h hW4 ⟨hnO _ (by omega), hnO _ (by omega), hnO _ (by omega)⟩)
    (fun W W' h k => h.ext k) (fun pre W W' h k => St.ext h k)
    (fun W h => (h.call (fun F' hb => Br_bf b p xs es F' _ (by omega) (by omega) (hl.imp id (fun h => by omega)) W hb)).mono fun e W' ⟨h1, h2, h3, h4⟩ => ⟨h1, h2, h4⟩)
    (fun k W hk h => by
      have hp : isPlace (lo + (k : Int)) (layF (putW a s N) xs ((winL lo hi fun k => getV xs (lo + (k : Int))).take k)).length := by rw [layF_len]; unfold winN at hk; exact ⟨by omega, by omega⟩
      have hlen : ((winL lo hi fun k => getV xs (lo + (k : Int))).take k).length ≤ k := by simp; omega
      refine (St.call (B := w4.heap.size) h (fun F' hb => Get_any b p _ _ F' (lo + (k : Int)) W hb (by rw [layF_len]; omega) (hl.imp id (fun h => by rw [List.length_append, List.length_cons, logB_len]; omega)))).mono ?_
      rintro e W' ⟨h1, h2, h3, h4⟩
      rw [lay_get] at h1
      refine ⟨h1, ?_, h4⟩
      rw [seenV_place hp] at h2
      simpa [SY] using h2)
  have hgive' := Lib.hid hgive
  clear hgive
  have hl' := Lib.hid hl
  clear hl
  gi_wp2
  refine wp_range (gf := 166) (fb := #[]) (lb := #[.pointer (some ⟨w1.heap.size, 0, none⟩), .pointer (some ⟨w1.heap.size + 2, 0, none⟩), .pointer (some ⟨w1.heap.size + 1, 0, none⟩)]) rfl (enters_of Try.func166 (by kernel_rfl) rfl) (encs := encW) (fun _ => rfl)
    hgive'.out
    (fun pre x a' W => ∃ Bs, StA w4 [] F b p (layF (putW a s N) xs pre) (es ++ (2, ((winN lo hi : Nat) : Int)) :: logB pre ++ [(1, x.1)]) Bs W ∧ W.heap[Bs]? = some (.cells #[.int .i64 x.2] 25 (0, 0)) ∧
      a' = { tmps := #[.pointer (some ⟨b, 0, none⟩), .agg #[.int .i64 a], .agg #[.int .i64 s], .int .i64 n, .int .i64 fr, .int .i64 to, .pointer (some ⟨w.heap.size, 0, none⟩), .pointer (some ⟨w.heap.size + 1, 0, none⟩), .pointer (some ⟨w.heap.size + 1 + 1, 0, none⟩), .pointer (some ⟨w.heap.size + 1 + 1 + 1, 0, none⟩), undef, undef, .int .i64 x.1, .pointer (some ⟨Bs, 0, none⟩), undef, .int .i64 n, .int .i64 (N : Int),
          .pointer (some ⟨b, 0, none⟩), .int .i64 fr, .int .i64 to,
          .func (.func 166) #[] #[.pointer (some ⟨w1.heap.size, 0, none⟩), .pointer (some ⟨w1.heap.size + 2, 0, none⟩), .pointer (some ⟨w1.heap.size + 1, 0, none⟩)], .int .i64 x.1, .agg #[.int .i64 x.2], undef, undef, undef, undef, undef, undef, undef, undef, undef, undef, undef, undef, undef, undef, undef, undef, undef, undef, undef, undef, undef], defers := [] })
    (fun W W' h k => h.book k) (fun pre W W' h k => St.book h k)
    (fun pre x a' W W' ⟨Bs, h, h2, h3⟩ k => ⟨Bs, h.book k, k.same _ _ (.inr rfl) h2, h3⟩)
    hst0 ?assign ?body ?done
  case assign =>
    clear hgive'
    rintro l pre x W K hpx g0 hK
    simp only [encW]
    gi_wp2
    refine hK _ _ ?_ ?_
    · exact (KeepsOthers.alloc _ _).from _
    · exact ⟨W.heap.size, St.fresh g0 _, World.alloc_heap_new W _, rfl⟩
  case body =>
    clear hgive'
    rintro l pre x a' W hpx ⟨Bs, g0, hbs, rfl⟩
    have hx1 : lo ≤ x.1 ∧ x.1 < hi := winL_at x (hpx.subset (by simp))
    have hpl : isPlace x.1 (layF (putW a s N) xs pre).length := by
      rw [layF_len]
      exact ⟨by omega, by omega⟩
    have hpn : pre.length < winN lo hi := by
      have := hpx.length_le
      rw [winL_len] at this
      simp at this
      omega
    clear hpx
    have kN' := St.boxed g0.st kN4 (hnO _ (by omega))
    have q0 : W.cell? ⟨w.heap.size + 1 + 1 + 1, 0, none⟩ = some (.int .i64 (N : Int)) := kN'.cell
    gi_wp2
    gi_loopw [24] (fun t wr => ∃ k : Nat, k ≤ N ∧ t = .int .i64 k ∧ StA w4 [] F b p (layF (putW a s N) xs pre) (es ++ (2, ((winN lo hi : Nat) : Int)) :: logB pre ++ [(1, x.1)]) Bs wr ∧ wr.heap[Bs]? = some (.cells #[.int .i64 (putK a s N x.1 x.2 k)] 25 (0, 0)) ∧ KeepsFrom w4.heap.size W wr) (fun t _ => N - (intOf t).toNat)
    case atStart => exact ⟨0, Nat.zero_le _, rfl, g0, hbs, KeepsFrom.refl _ _⟩
    case round =>
      clear g0 hbs kN' q0
      obtain ⟨k, hkN, rfl, g0, hbs, hkf⟩ := hrel
      have kB' := St.boxed g0.st kB4 (hnO _ (by omega))
      have kA' := St.boxed g0.st kA4 (hnO _ (by omega))
      have kS' := St.boxed g0.st kS4 (hnO _ (by omega))
      have kN' := St.boxed g0.st kN4 (hnO _ (by omega))
      have q0 : wr.cell? ⟨w.heap.size, 0, none⟩ = some (.pointer (some ⟨b, 0, none⟩)) := kB'.cell
      have q1 : wr.cell? ⟨w.heap.size + 1, 0, none⟩ = some (.int .i64 a) := kA'.cell
      have q2 : wr.cell? ⟨w.heap.size + 1 + 1, 0, none⟩ = some (.int .i64 s) := kS'.cell
      have q3 : wr.cell? ⟨w.heap.size + 1 + 1 + 1, 0, none⟩ = some (.int .i64 (N : Int)) := kN'.cell
      have q4 : wr.cell? ⟨Bs, 0, none⟩ = some (.int .i64 (putK a s N x.1 x.2 k)) := by rw [blk_cell hbs]; rfl
      by_cases hlt : k < N
      · gi_wp2
        refine Mix.wpIn_region_mixX 0 (.c 0 (.c 1 (.c 2 (.c 3 (.c 4 (.c 5 (.c 6 (.c 7 (.c 8 (.c 9 (.c 10 (.c 11 (.e 12 .done))))))))))))) (by kernel_rfl) (by kernel_rfl) (Nat.zero_le _) (fun hap hapf => ?_)
        have d1 : ∀ z, (ap wr z).cell? ⟨w.heap.size + 1, 0, none⟩ = some (.int .i64 a) := fun z => (ap_ext wr z).cell q1
        have d2 : ∀ z, (ap wr z).cell? ⟨w.heap.size + 1 + 1, 0, none⟩ = some (.int .i64 s) := fun z => (ap_ext wr z).cell q2
        have d3 : ∀ z, (ap wr z).cell? ⟨w.heap.size + 1 + 1 + 1, 0, none⟩ = some (.int .i64 (N : Int)) := fun z => (ap_ext wr z).cell q3
        have d4 : ∀ z, (ap wr z).cell? ⟨Bs, 0, none⟩ = some (.int .i64 (putK a s N x.1 x.2 k)) := fun z => (ap_ext wr z).cell q4
        repeat (refine Mix.mix_q rfl rfl rfl (fun K hK => ?_); (conv => arg 2; whnf); (first | (go_big_quiet_op; refine hK _ ?_) | (go_simp; refine hK _ ?_)); clear hK K)
        (refine Mix.mix_c rfl rfl (fun K hK => ?_); (conv => arg 2; whnf); go_simp; apply Exists.intro; refine ⟨fun _ => ?_, hK _ ?_⟩; exact is_any _ _ ha (by unfold In64; omega) _; clear hK K)
        repeat (refine Mix.mix_q rfl rfl rfl (fun K hK => ?_); (conv => arg 2; whnf); (first | (go_big_quiet_op; refine hK _ ?_) | (go_simp; refine hK _ ?_)); clear hK K)
        (refine Mix.mix_c rfl rfl (fun K hK => ?_); (conv => arg 2; whnf); go_simp; apply Exists.intro; refine ⟨fun _ => ?_, hK _ ?_⟩; exact digit_any _ _ _ (by omega) (by omega) _; clear hK K)
        (refine Mix.mix_c rfl rfl (fun K hK => ?_); (conv => arg 2; whnf); go_simp; apply Exists.intro; refine ⟨fun _ => ?_, hK _ ?_⟩; exact And_any _ _ _; clear hK K)
        (refine Mix.mix_c rfl rfl (fun K hK => ?_); (conv => arg 2; whnf); go_simp; apply Exists.intro; refine ⟨fun _ => ?_, hK _ ?_⟩; exact Or_any _ _ _; clear hK K)
        refine Mix.mix_last rfl rfl (by kernel_rfl) (fun w5 hE5 K hK => ?_)
        (conv => arg 2; whnf)
        have E5 : Ext wr w5 := (Ext.refl wr).drew'.trans hE5
        have b5 := E5.blk hbs
        have q5 : w5.cell? ⟨Bs, 0, none⟩ = some (.int .i64 (putK a s N x.1 x.2 k)) := by rw [blk_cell b5]; rfl
        have f5 : w5.frozen? ⟨Bs, 0, none⟩ = false := blk_free b5 0
        go_big_op
        refine hK _ _ (fun w6 hE6 => ?_)
        clear hK K
        (try dsimp only [Exit.then])
        have g6 := ((g0.ext E5).set (.int .i64 (putK a s N x.1 x.2 (k + 1)))).ext hE6
        have b6 := hE6.blk (blk_set (o := 0) (v := .int .i64 (putK a s N x.1 x.2 (k + 1))) b5)
        have k6 : KeepsFrom w4.heap.size W w6 := ((hkf.trans (KeepsFrom.of_ext E5)).trans ((KeepsOthers.setCell w5 ⟨Bs, 0, none⟩ (.int .i64 (putK a s N x.1 x.2 (k + 1)))).from _)).trans (KeepsFrom.of_ext hE6)
        clear d1 d2 d3 d4 q0 q1 q2 q3 q4 q5 f5 b5 hap hapf g0 hbs hkf
        gi_wp2
        go_roundw
        case rel => exact ⟨k + 1, by omega, by go_num, g6, b6, k6⟩
        case measure => simp [intOf]; omega
      · have hkn : k = N := by omega
        subst hkn
        gi_wp2_with fail
        refine ⟨trivial, CallsIn.inRound l ((callsIn_wide.2 (St.call (B := w4.heap.size) g0.st (fun F' hb => Set_any b p _ _ F' x.1 _ wr hb (by rw [layF_len]; omega) (hl'.out.imp id (fun h => by rw [List.length_append, List.length_append, List.length_cons, logB_len]; simp; omega))))).mono ?_)⟩
        rintro e w6 ⟨rfl, h2, h3, h4⟩
        gi_wp2
        refine ⟨hkf.trans h4, ?_⟩
        rw [seenV_place hpl] at h2
        unfold SJ
        rw [layF_snoc, logB_snoc]
        simpa [putW] using h2
  case done =>
    clear hgive'
    rintro D W hD g0 hK
    gi_wp2
    refine ⟨by simp, .inl ⟨_, _, rfl, run_takeDeferred hK, ?_⟩⟩
    obtain ⟨F', hB, hF', hT⟩ := g0
    refine ⟨_, by simp [results, Try.results78, go_sem], rfl, F', ?_, ?_, fun x hx => (hF' x hx).imp id (fun h => by omega)⟩
    · have e : es ++ winB lo hi = es ++ (2, ((winN lo hi : Nat) : Int)) :: logB (winL lo hi fun k => getV xs (lo + (k : Int))) := by rw [logB_win]; rfl
      rw [e]
      refine hB.turn (G := [D]) (turn_put (D := D) _) (fun y hy hm => ?_)
      simp only [List.mem_cons, List.not_mem_nil, or_false] at hm
      subst hm
      have := hB.cells _ hy _ hK
      cases this
    · refine ((Turn.of_ext hE04).trans hT (fun y hy => ?_)).trans (turn_put (D := D) _) (fun y hy => ?_)
      · exact .inl (by simpa using hy)
      · simp only [List.mem_singleton] at hy
        exact .inr (by omega)
end Go.Proofs.Ytoipadeeochbnaa
