import Derived.Test.YtoipadeeochbnaaScan8
namespace Go.Proofs.Ytoipadeeochbnaa
open Go.RowKit Mix
set_option linter.unusedVariables false
attribute [local go_sem] Mix.calm Oper.quietUpon Oper.semAt_some
/-- What is taken of a word, where the place is the byte's. -/
def takeK (a : Int) (N : Nat) (i x o : Int) : Nat → Int
  | 0 => o
  | k + 1 => bits .or .i64 (takeK a N i x o k) (wrap64 (bits .and .i64 (mk (decide (a = i - (k : Int)))) (digV x 1 0) * 2 ^ (clip63 (8 * ((N : Int) - 1 - (k : Int)))).toNat))
def takeF (a : Int) (N : Nat) (l : List (Int × Int)) : Int := l.foldl (fun o e => takeK a N e.1 e.2 o N) 0
theorem takeF_snoc (a : Int) (N : Nat) (l : List (Int × Int)) (e : Int × Int) : takeF a N (l ++ [e]) = takeK a N e.1 e.2 (takeF a N l) N := by simp [takeF]
def takeV (xs : List Int) (a : Int) (N : Nat) (lo hi : Int) : Int := takeF a N (winL lo hi fun k => getV xs (lo + (k : Int)))
def TJ (w4 : World) (Bo : Nat) (F : List Nat) (b : Nat) (p : Option Nat) (xs : List Int) (es : List (Int × Int)) (a : Int) (N : Nat) (lo hi : Int) (pre : List (Int × Int)) (W : World) : Prop :=
  St w4 [Bo] F b p xs (es ++ (2, ((winN lo hi : Nat) : Int)) :: logW pre) W ∧ Boxed W Bo 25 (.int .i64 (takeF a N pre))
def TY (w4 : World) (Bo : Nat) (F : List Nat) (b : Nat) (p : Option Nat) (xs : List Int) (es : List (Int × Int)) (a : Int) (N : Nat) (lo hi : Int) (pre : List (Int × Int)) (x : Int × Int) (W : World) : Prop :=
  St w4 [Bo] F b p xs (es ++ (2, ((winN lo hi : Nat) : Int)) :: logW (pre ++ [x])) W ∧ Boxed W Bo 25 (.int .i64 (takeF a N pre))
theorem boxes3 (w : World) (t0 t1 t2 : TypeId) (v0 v1 v2 : Value) : ∀ W, W = ((w.alloc (.cells #[v0] t0)).alloc (.cells #[v1] t1)).alloc (.cells #[v2] t2) →
    Ext w W ∧ Boxed W w.heap.size t0 v0 ∧ Boxed W (w.heap.size + 1) t1 v1 ∧ Boxed W (w.heap.size + 2) t2 v2 := by
  rintro W rfl
  refine ⟨(((Ext.refl w).alloc' _).alloc' _).alloc' _, ((Boxed.new w _ _).alloc _).alloc _, ?_, ?_⟩
  · have := (Boxed.new (w.alloc (.cells #[v0] t0)) t1 v1).alloc (.cells #[v2] t2)
    rwa [World.size_alloc] at this
  · have := Boxed.new ((w.alloc (.cells #[v0] t0)).alloc (.cells #[v1] t1)) t2 v2
    rwa [World.size_alloc, World.size_alloc] at this
set_option maxHeartbeats 2000000 in
set_option maxRecDepth 100000 in
theorem Take_bf (b : Nat) (p : Option Nat) (xs : List Int) (es : List (Int × Int)) (F : List Nat) (a n fr to : Int) (ha : In64 a) (hxs : ∀ x ∈ xs, In64 x) (hx : xs.length ≤ 1000) (hl : p = none ∨ es.length + 1 + xs.length ≤ 316) (w : World) (h : Bf w b p xs es F) :
    Calls Try.prog 79 #[.pointer (some ⟨b, 0, none⟩), .agg #[.int .i64 a], .int .i64 n, .int .i64 fr, .int .i64 to] w
      (BTold (.agg #[.int .i64 (takeV xs a (clipI n 0 8).toNat (clipI fr 0 xs.length) (clipI to 0 xs.length))]) b p xs (es ++ winE (clipI fr 0 xs.length) (clipI to 0 xs.length)) F w) := by
  have hFlt := h.lt
  have hlo := clipI_bd fr xs.length
  have hhi := clipI_bd to xs.length
  obtain ⟨lo, hloe⟩ : ∃ lo, lo = clipI fr 0 xs.length := ⟨_, rfl⟩
  obtain ⟨hi, hhie⟩ : ∃ hi, hi = clipI to 0 xs.length := ⟨_, rfl⟩
  rw [← hloe] at hlo ⊢
  rw [← hhie] at hhi ⊢
  have hn : winN lo hi ≤ xs.length := by unfold winN; omega
  refine (callsIn_wide (n := 9)).1 (callsIn_of_wp_marks Try.func79 rfl trivial ?_ rfl)
  simp only [Try.ntmps79, List.size_toArray, List.length_cons, List.length_nil, Nat.reduceAdd, Nat.reduceSub, Array.replicate_succ, Array.replicate_zero, List.push_toArray, List.append_toArray, List.nil_append, List.cons_append]
  obtain ⟨N, hN⟩ : ∃ N : Nat, clipI n 0 8 = (N : Int) := ⟨(clipI n 0 8).toNat, by unfold clipI; split <;> (try split) <;> omega⟩
  have hN8 : N ≤ 8 := by
    have : clipI n 0 8 ≤ 8 := by unfold clipI; split <;> (try split) <;> omega
    omega
  rw [hN, Int.toNat_natCast]
  have mN := fun W => NumClip_any n 0 8 W
  rw [hN] at mN
  clear hN
  have hloe' := Lib.hid hloe
  have hhie' := Lib.hid hhie
  clear hloe hhie
  gi_wp2_with fail
  obtain ⟨W0, hW0⟩ : ∃ W0, W0 = ((w.alloc (.cells #[.int .i64 a] 25)).alloc (.cells #[.int .i64 n] 3)).alloc (.cells #[.int .i64 0] 25) := ⟨_, rfl⟩
  obtain ⟨hE0, kA0, kN0, kR0⟩ := boxes3 w _ _ _ _ _ _ W0 hW0
  rw [← hW0]
  clear hW0
  refine ⟨trivial, (callsIn_wide.2 (mN _)).mono ?_⟩
  rintro e w0 ⟨rfl, rfl⟩
  clear mN
  have zR0 := kR0.lt
  have cN0 : W0.cell? ⟨w.heap.size + 1, 0, none⟩ = some (.int .i64 n) := kN0.cell
  have fN0 : W0.frozen? ⟨w.heap.size + 1, 0, none⟩ = false := kN0.frozen
  gi_wp2_with fail
  obtain ⟨w1, hw1⟩ : ∃ w1, w1 = W0.setCell ⟨w.heap.size + 1, 0, none⟩ (.int .i64 (N : Int)) := ⟨_, rfl⟩
  have tN : Turn [w.heap.size + 1] W0 w1 := by rw [hw1]; exact turn_set (by simp)
  have hE1 : Ext w w1 := by rw [hw1]; exact hE0.set' (by simp) _
  have kA1 := boxed_turn kA0 tN (by simp)
  have kR1 := boxed_turn kR0 tN (by simp)
  have kN1 : Boxed w1 (w.heap.size + 1) 3 (.int .i64 (N : Int)) := by rw [hw1]; exact Boxed.set _ kN0
  rw [← hw1]
  clear hw1 kA0 kN0 kR0 cN0 fN0 tN hE0
  refine ⟨trivial, (callsIn_wide.2 (of_any 0 _)).mono ?_⟩
  rintro e w2 ⟨rfl, hE2⟩
  have hE02 : Ext w w2 := hE1.trans hE2
  have kA : Boxed w2 w.heap.size 25 (.int .i64 a) := hE2.blk kA1
  have kN : Boxed w2 (w.heap.size + 1) 3 (.int .i64 (N : Int)) := hE2.blk kN1
  have kR : Boxed w2 (w.heap.size + 2) 25 (.int .i64 0) := hE2.blk kR1
  have zA := kA.lt
  have zR := kR.lt
  clear kA1 kN1 kR1
  gi_wp2_with fail
  obtain ⟨v0, Fr0, hB0, hF0⟩ := (h.ext hE02).ext ((Ext.refl w2).alloc' (.cells #[.int .i64 0] 25))
  refine ⟨trivial, (callsIn_wide.2 (window_any b p xs es v0 Fr0 fr to _ hB0)).mono ?_⟩
  rw [← hloe'.out, ← hhie'.out]
  rintro e w4 ⟨rfl, hW4, hE4⟩
  have hE24 : Ext w2 w4 := ((Ext.refl w2).alloc' _).trans hE4
  have kA4 : Boxed w4 w.heap.size 25 (.int .i64 a) := hE24.blk kA
  have kN4 : Boxed w4 (w.heap.size + 1) 3 (.int .i64 (N : Int)) := hE24.blk kN
  have kR4 : Boxed w4 (w.heap.size + 2) 25 (.int .i64 0) := hE24.blk kR
  have kO4 : Boxed w4 w2.heap.size 25 (.int .i64 0) := hE4.blk (Boxed.new w2 _ _)
  have hB4 := (h.ext hE02).ext hE24
  have hE04 := hE02.trans hE24
  have zW := hW4.b5.lt
  simp only [World.size_alloc] at hW4 zW ⊢
  have hOF : ∀ x, w.heap.size ≤ x → x ∉ F := fun x hx hm => by have := hFlt x hm; omega
  have hst0 : St w4 [w2.heap.size] F b p xs es w4 := ⟨F, hB4, fun x hx => .inl hx, Turn.refl _ _⟩
  clear hB0 hF0 hE4
  have hBo : w2.heap.size < w4.heap.size := by omega
  have hnO : ∀ x, x ≠ w2.heap.size → w.heap.size ≤ x → x ∉ [w2.heap.size] ++ F := fun x h1 h2 hm => by
    rcases List.mem_append.1 hm with h | h
    · exact h1 (by simpa using h)
    · exact hOF x h2 h
  have zw2 : w.heap.size ≤ w2.heap.size := hE02.size
  have hgive := window1_gives b p lo hi ⟨hlo.1, by omega⟩ ⟨hhi.1, by omega⟩ (w2.heap.size + 1) w4.heap.size (fun k => getV xs (lo + (k : Int)))
    (LJ0 w4 w2.heap.size F b p xs es) (TJ w4 w2.heap.size F b p xs es a N lo hi) (TY w4 w2.heap.size F b p xs es a N lo hi)
    (fun W h => h.1.win hW4 ⟨hnO _ (by omega) (by omega), hnO _ (by omega) (by omega), hnO _ (by omega) (by omega)⟩)
    (fun pre W h => h.1.win hW4 ⟨hnO _ (by omega) (by omega), hnO _ (by omega) (by omega), hnO _ (by omega) (by omega)⟩)
    (fun W W' h k => ⟨h.1.ext k, k.blk h.2⟩) (fun pre W W' h k => ⟨h.1.ext k, k.blk h.2⟩)
    (fun W h => (h.1.call (fun F' hb => Br_bf b p xs es F' _ (by omega) (by omega) (hl.imp id (fun h => by omega)) W hb)).mono fun e W' ⟨h1, h2, h3, h4⟩ => ⟨h1, ⟨h2, (h3 _ hBo (hOF _ zw2)).trans h.2⟩, h4⟩)
    (fun k W hk h => by
      have hp : isPlace (lo + (k : Int)) xs.length := by unfold winN at hk; exact ⟨by omega, by omega⟩
      have hlen : ((winL lo hi fun k => getV xs (lo + (k : Int))).take k).length ≤ k := by simp; omega
      refine (St.call (B := w4.heap.size) h.1 (fun F' hb => Get_any b p xs _ F' (lo + (k : Int)) W hb (by omega) (hl.imp id (fun h => by rw [List.length_append, List.length_cons, logW_len]; omega)))).mono ?_
      rintro e W' ⟨h1, h2, h3, h4⟩
      refine ⟨h1, ⟨?_, (h3 _ hBo (hOF _ zw2)).trans h.2⟩, h4⟩
      rw [seenV_place hp] at h2
      simpa [logW] using h2)
  have hgive' := Lib.hid hgive
  clear hgive
  gi_wp2
  refine wp_range (gf := 166) (fb := #[]) (lb := #[.pointer (some ⟨w2.heap.size + 1, 0, none⟩), .pointer (some ⟨w2.heap.size + 1 + 2, 0, none⟩), .pointer (some ⟨w2.heap.size + 1 + 1, 0, none⟩)]) rfl (enters_of Try.func166 (by kernel_rfl) rfl) (encs := encW) (fun _ => rfl)
    hgive'.out
    (fun pre x a' W => TY w4 w2.heap.size F b p xs es a N lo hi pre x W ∧ ∃ Bs, w4.heap.size ≤ Bs ∧ W.heap[Bs]? = some (.cells #[.int .i64 x.2] 25 (0, 0)) ∧
      a' = { tmps := #[.pointer (some ⟨b, 0, none⟩), .agg #[.int .i64 a], .int .i64 n, .int .i64 fr, .int .i64 to, undef, .pointer (some ⟨w.heap.size, 0, none⟩), .pointer (some ⟨w.heap.size + 1, 0, none⟩), undef, undef, .pointer (some ⟨w.heap.size + 1 + 1, 0, none⟩), .pointer (some ⟨w2.heap.size, 0, none⟩), .int .i64 x.1, .pointer (some ⟨Bs, 0, none⟩), undef, .int .i64 n, .int .i64 (N : Int), .agg #[.int .i64 0], .pointer (some ⟨b, 0, none⟩), .int .i64 fr, .int .i64 to,
          .func (.func 166) #[] #[.pointer (some ⟨w2.heap.size + 1, 0, none⟩), .pointer (some ⟨w2.heap.size + 1 + 2, 0, none⟩), .pointer (some ⟨w2.heap.size + 1 + 1, 0, none⟩)], .int .i64 x.1, .agg #[.int .i64 x.2], undef, undef, undef, undef, undef, undef, undef, undef, undef, undef, undef, undef, undef, undef, undef, undef, undef, undef, undef, undef, undef, undef], defers := [] })
    (fun W W' h k => ⟨h.1.book k, boxed_book h.2 k⟩) (fun pre W W' h k => ⟨h.1.book k, boxed_book h.2 k⟩)
    (fun pre x a' W W' ⟨h, Bs, h1, h2, h3⟩ k => ⟨⟨h.1.book k, boxed_book h.2 k⟩, Bs, h1, k.same _ _ (.inr rfl) h2, h3⟩)
    ⟨hst0, kO4⟩ ?assign ?body ?done
  case assign =>
    clear hgive'
    rintro l pre x W K hpx ⟨g0, g1⟩ hK
    have zg := g1.lt
    simp only [encW]
    gi_wp2
    refine hK _ _ ?_ ?_
    · exact (KeepsOthers.alloc _ _).from _
    · exact ⟨⟨g0.ext ((Ext.refl _).alloc' _), g1.alloc _⟩, W.heap.size, by obtain ⟨F', _, _, h⟩ := g0; exact h.size, World.alloc_heap_new W _, rfl⟩
  case body =>
    clear hgive'
    rintro l pre x a' W hpx ⟨⟨g0, g1⟩, Bs, hBs, hbs, rfl⟩
    have hx1 : lo ≤ x.1 ∧ x.1 < hi := winL_at x (hpx.subset (by simp))
    clear hpx
    have kN' := g0.boxed kN4 (hnO _ (by omega) (by omega))
    have q0 := kN'.cell
    gi_wp2
    gi_loopw [25] (fun t wr => ∃ k : Nat, k ≤ N ∧ t = .int .i64 k ∧ St w4 [w2.heap.size] F b p xs (es ++ (2, ((winN lo hi : Nat) : Int)) :: logW (pre ++ [x])) wr ∧ Boxed wr w2.heap.size 25 (.int .i64 (takeK a N x.1 x.2 (takeF a N pre) k)) ∧ wr.heap[Bs]? = some (.cells #[.int .i64 x.2] 25 (0, 0)) ∧ KeepsFrom w4.heap.size W wr) (fun t _ => N - (intOf t).toNat)
    case atStart => exact ⟨0, Nat.zero_le _, rfl, g0, g1, hbs, KeepsFrom.refl _ _⟩
    case round =>
      clear g0 g1 hbs kN' q0
      obtain ⟨k, hkN, rfl, g0, g1, hbs, hkf⟩ := hrel
      have kA' := g0.boxed kA4 (hnO _ (by omega) (Nat.le_refl _))
      have kN' := g0.boxed kN4 (hnO _ (by omega) (by omega))
      have q1 := kA'.cell
      have q2 := kN'.cell
      have q3 : wr.cell? ⟨Bs, 0, none⟩ = some (.int .i64 x.2) := by rw [blk_cell hbs]; rfl
      have q4 := g1.cell
      by_cases hlt : k < N
      · gi_wp2
        refine Mix.wpIn_region_mixX 0 (.c 0 (.c 1 (.c 2 (.c 3 (.c 4 (.c 5 (.c 6 (.c 7 (.c 8 (.c 9 (.c 10 (.c 11 (.c 12 (.c 13 (.c 14 (.c 15 (.e 16 .done))))))))))))))))) (by kernel_rfl) (by kernel_rfl) (Nat.zero_le _) (fun hap hapf => ?_)
        have d1 : ∀ z, (ap wr z).cell? ⟨w.heap.size, 0, none⟩ = some (.int .i64 a) := fun z => (ap_ext wr z).cell q1
        have d2 : ∀ z, (ap wr z).cell? ⟨w.heap.size + 1, 0, none⟩ = some (.int .i64 (N : Int)) := fun z => (ap_ext wr z).cell q2
        have d3 : ∀ z, (ap wr z).cell? ⟨Bs, 0, none⟩ = some (.int .i64 x.2) := fun z => (ap_ext wr z).cell q3
        have d4 : ∀ z, (ap wr z).cell? ⟨w2.heap.size, 0, none⟩ = some (.int .i64 (takeK a N x.1 x.2 (takeF a N pre) k)) := fun z => (ap_ext wr z).cell q4
        repeat (refine Mix.mix_q rfl rfl rfl (fun K hK => ?_); (conv => arg 2; whnf); (first | (go_big_quiet_op; refine hK _ ?_) | (go_simp; refine hK _ ?_)); clear hK K)
        (refine Mix.mix_c rfl rfl (fun K hK => ?_); (conv => arg 2; whnf); go_simp; apply Exists.intro; refine ⟨fun _ => ?_, hK _ ?_⟩; exact is_any _ _ ha (by unfold In64; omega) _; clear hK K)
        repeat (refine Mix.mix_q rfl rfl rfl (fun K hK => ?_); (conv => arg 2; whnf); (first | (go_big_quiet_op; refine hK _ ?_) | (go_simp; refine hK _ ?_)); clear hK K)
        (refine Mix.mix_c rfl rfl (fun K hK => ?_); (conv => arg 2; whnf); go_simp; apply Exists.intro; refine ⟨fun _ => ?_, hK _ ?_⟩; exact digit_any _ _ _ (by omega) (by omega) _; clear hK K)
        (refine Mix.mix_c rfl rfl (fun K hK => ?_); (conv => arg 2; whnf); go_simp; apply Exists.intro; refine ⟨fun _ => ?_, hK _ ?_⟩; exact And_any _ _ _; clear hK K)
        repeat (refine Mix.mix_q rfl rfl rfl (fun K hK => ?_); (conv => arg 2; whnf); (first | (go_big_quiet_op; refine hK _ ?_) | (go_simp; refine hK _ ?_)); clear hK K)
        (refine Mix.mix_c rfl rfl (fun K hK => ?_); (conv => arg 2; whnf); go_simp; apply Exists.intro; refine ⟨fun _ => ?_, hK _ ?_⟩; exact Shl_any _ _ _; clear hK K)
        (refine Mix.mix_c rfl rfl (fun K hK => ?_); (conv => arg 2; whnf); go_simp; apply Exists.intro; refine ⟨fun _ => ?_, hK _ ?_⟩; exact Or_any _ _ _; clear hK K)
        refine Mix.mix_last rfl rfl (by kernel_rfl) (fun w5 hE5 K hK => ?_)
        (conv => arg 2; whnf)
        have E5 : Ext wr w5 := (Ext.refl wr).drew'.trans hE5
        have b5 := E5.blk hbs
        have k5 := E5.blk g1
        have q5 := Boxed.cell k5
        have f5 := Boxed.frozen k5
        go_big_op
        refine hK _ _ (fun w6 hE6 => ?_)
        clear hK K
        (try dsimp only [Exit.then])
        have g6 := ((g0.ext E5).set (x := w2.heap.size) (by simp) hBo (hOF _ zw2) (.int .i64 (takeK a N x.1 x.2 (takeF a N pre) (k + 1)))).ext hE6
        have b6 := hE6.blk (Boxed.set (.int .i64 (takeK a N x.1 x.2 (takeF a N pre) (k + 1))) k5)
        have s6 := hE6.blk ((Below.heap_setCell w5 ⟨w2.heap.size, 0, none⟩ (.int .i64 (takeK a N x.1 x.2 (takeF a N pre) (k + 1))) Bs (by simp; omega)).trans b5)
        have k6 : KeepsFrom w4.heap.size W w6 := ((hkf.trans (KeepsFrom.of_ext E5)).trans ((KeepsOthers.setCell w5 ⟨w2.heap.size, 0, none⟩ (.int .i64 (takeK a N x.1 x.2 (takeF a N pre) (k + 1)))).from _)).trans (KeepsFrom.of_ext hE6)
        clear d1 d2 d3 d4 q1 q2 q3 q4 q5 f5 b5 k5 hap hapf g0 g1 hbs hkf
        gi_wp2
        go_roundw
        case rel => exact ⟨k + 1, by omega, by go_num, g6, b6, s6, k6⟩
        case measure => simp [intOf]; omega
      · have hkn : k = N := by omega
        subst hkn
        gi_wp2
        refine ⟨hkf, g0, ?_⟩
        rw [takeF_snoc]
        exact g1
  case done =>
    clear hgive'
    rintro D W hD ⟨g0, g1⟩ hK
    have kR' := g0.boxed kR4 (hnO _ (by omega) (by omega))
    have q1 := g1.cell
    have q2 := kR'.cell
    have f2 := kR'.frozen
    gi_wp2
    have hDl : D ≠ w.heap.size + 1 + 1 := by omega
    have hK2 : (W.setCell ⟨w.heap.size + 1 + 1, 0, none⟩ (.int .i64 (takeF a N (winL lo hi fun k => getV xs (lo + (k : Int)))))).heap[D]? = some (.deferred (some [])) := (Below.heap_setCell _ _ _ _ hDl).trans hK
    refine ⟨by simp, .inl ⟨_, _, rfl, run_takeDeferred hK2, ?_⟩⟩
    have kF := boxed_turn (kR'.set (.int .i64 (takeF a N (winL lo hi fun k => getV xs (lo + (k : Int)))))) (turn_put (D := D) (.deferred none)) (by simp; omega)
    have cF := kF.cell
    obtain ⟨F', hB, hF', hT⟩ := g0
    refine ⟨_, by simp [results, Try.results79, go_sem, cF]; rfl, rfl, F', ?_, ?_, fun x hx => (hF' x hx).imp id (fun h => by have := hE04.size; omega)⟩
    · have e : es ++ winE lo hi = es ++ (2, ((winN lo hi : Nat) : Int)) :: logW (winL lo hi fun k => getV xs (lo + (k : Int))) := by rw [logW_win]; rfl
      rw [e]
      refine hB.turn (G := [w.heap.size + 1 + 1, D]) ((turn_set (by simp)).seq (turn_mono (turn_put (D := D) _) (by simp))) (fun y hy hm => ?_)
      simp only [List.mem_cons, List.not_mem_nil, or_false] at hm
      rcases hm with rfl | rfl
      · rcases hF' _ hy with h | h
        · exact hOF _ (by omega) h
        · omega
      · have := hB.cells _ hy _ hK
        cases this
    · refine (((Turn.of_ext hE04).trans hT (fun y hy => ?_)).trans (turn_set (F := [w.heap.size + 1 + 1]) (by simp)) (fun y hy => ?_)).trans (turn_put (D := D) _) (fun y hy => ?_)
      · rcases List.mem_append.1 hy with h | h
        · simp only [List.mem_singleton] at h
          exact .inr (by omega)
        · exact .inl h
      · simp only [List.mem_singleton] at hy
        exact .inr (by omega)
      · simp only [List.mem_singleton] at hy
        have := hE04.size
        exact .inr (by omega)
end Go.Proofs.Ytoipadeeochbnaa
