import Derived.Test.YtoipadeeochbnaaScan3
namespace Go.Proofs.Ytoipadeeochbnaa
open Go.RowKit Mix
set_option linter.unusedVariables false
attribute [local go_sem] Mix.calm Oper.quietUpon Oper.semAt_some
def loadV (xs : List Int) (a lo hi : Int) : Int := loadF a (winL lo hi fun k => getV xs (lo + (k : Int)))
theorem getV_in {xs : List Int} (h : ∀ x ∈ xs, In64 x) (i : Int) : In64 (getV xs i) := by
  unfold getV
  split
  · rename_i hp
    obtain ⟨h0, h1⟩ := hp
    rw [List.getD_eq_getElem?_getD, List.getElem?_eq_getElem (by omega)]
    exact h _ (List.getElem_mem _)
  · simp [In64]
theorem winL_in {lo hi : Int} {val : Nat → Int} (h : ∀ k, In64 (val k)) : ∀ e ∈ winL lo hi val, In64 e.2 := by
  intro e he
  simp only [winL, List.mem_map, List.mem_range] at he
  obtain ⟨k, _, rfl⟩ := he
  exact h k
theorem winL_at {lo hi : Int} {val : Nat → Int} : ∀ e ∈ winL lo hi val, lo ≤ e.1 ∧ e.1 < hi := by
  intro e he
  simp only [winL, List.mem_map, List.mem_range] at he
  obtain ⟨k, hk, rfl⟩ := he
  unfold winN at hk
  simp
  omega
theorem logW_len (l : List (Int × Int)) : (logW l).length = l.length := by simp [logW]
def LJ0 (w4 : World) (Bo : Nat) (F : List Nat) (b : Nat) (p : Option Nat) (xs : List Int) (es : List (Int × Int)) (W : World) : Prop := St w4 [Bo] F b p xs es W ∧ Boxed W Bo 25 (.int .i64 0)
def LJ (w4 : World) (Bo : Nat) (F : List Nat) (b : Nat) (p : Option Nat) (xs : List Int) (es : List (Int × Int)) (a lo hi : Int) (pre : List (Int × Int)) (W : World) : Prop :=
  St w4 [Bo] F b p xs (es ++ (2, ((winN lo hi : Nat) : Int)) :: logW pre) W ∧ Boxed W Bo 25 (.int .i64 (loadF a pre))
def LY (w4 : World) (Bo : Nat) (F : List Nat) (b : Nat) (p : Option Nat) (xs : List Int) (es : List (Int × Int)) (a lo hi : Int) (pre : List (Int × Int)) (x : Int × Int) (W : World) : Prop :=
  St w4 [Bo] F b p xs (es ++ (2, ((winN lo hi : Nat) : Int)) :: logW (pre ++ [x])) W ∧ Boxed W Bo 25 (.int .i64 (loadF a pre))
theorem turn_put {D : Nat} {W : World} (o : Obj) : Turn [D] W (W.putObj D o) := ⟨rfl, rfl, rfl, by simp, fun k _ hk => World.putObj_heap_other (fun e => hk (by simp [e]))⟩
theorem seenV_place {n : Nat} {i : Int} (h : isPlace i n) : seenV n i = [(1, i)] := by unfold seenV; rw [if_pos h]
set_option maxHeartbeats 2000000 in
set_option maxRecDepth 100000 in
theorem Load_bf (b : Nat) (p : Option Nat) (xs : List Int) (es : List (Int × Int)) (F : List Nat) (a fr to : Int) (ha : In64 a) (hxs : ∀ x ∈ xs, In64 x) (hx : xs.length ≤ 1000) (hl : p = none ∨ es.length + 1 + xs.length ≤ 316) (w : World) (h : Bf w b p xs es F) :
    Calls Try.prog 73 #[.pointer (some ⟨b, 0, none⟩), .agg #[.int .i64 a], .int .i64 fr, .int .i64 to] w
      (BTold (.agg #[.int .i64 (loadV xs a (clipI fr 0 xs.length) (clipI to 0 xs.length))]) b p xs (es ++ winE (clipI fr 0 xs.length) (clipI to 0 xs.length)) F w) := by
  have hFlt := h.lt
  have hlo := clipI_bd fr xs.length
  have hhi := clipI_bd to xs.length
  obtain ⟨lo, hloe⟩ : ∃ lo, lo = clipI fr 0 xs.length := ⟨_, rfl⟩
  obtain ⟨hi, hhie⟩ : ∃ hi, hi = clipI to 0 xs.length := ⟨_, rfl⟩
  rw [← hloe] at hlo ⊢
  rw [← hhie] at hhi ⊢
  have hn : winN lo hi ≤ xs.length := by unfold winN; omega
  refine (callsIn_wide (n := 9)).1 (callsIn_of_wp_marks Try.func73 rfl trivial ?_ rfl)
  simp only [Try.ntmps73, List.size_toArray, List.length_cons, List.length_nil, Nat.reduceAdd, Nat.reduceSub, Array.replicate_succ, Array.replicate_zero, List.push_toArray, List.append_toArray, List.nil_append, List.cons_append]
  gi_wp2_with fail
  refine ⟨trivial, (callsIn_wide.2 (of_any 0 _)).mono ?_⟩
  rintro e w2 ⟨rfl, hE2⟩
  have hE02 : Ext w w2 := (((Ext.refl w).alloc' _).alloc' _).trans hE2
  have kA : Boxed w2 w.heap.size 25 (.int .i64 a) := hE2.blk ((Boxed.new w _ _).alloc _)
  have kR : Boxed w2 (w.heap.size + 1) 25 (.int .i64 0) := by
    have := Boxed.new (w.alloc (.cells #[.int .i64 a] 25)) 25 (.int .i64 0)
    rw [World.size_alloc] at this
    exact hE2.blk this
  have zA := kA.lt
  have zR := kR.lt
  gi_wp2_with fail
  obtain ⟨v0, Fr0, hB0, hF0⟩ := (h.ext hE02).ext ((Ext.refl w2).alloc' (.cells #[.int .i64 0] 25))
  refine ⟨trivial, (callsIn_wide.2 (window_any b p xs es v0 Fr0 fr to _ hB0)).mono ?_⟩
  rw [← hloe, ← hhie]
  rintro e w4 ⟨rfl, hW4, hE4⟩
  have hE24 : Ext w2 w4 := ((Ext.refl w2).alloc' _).trans hE4
  have kA4 : Boxed w4 w.heap.size 25 (.int .i64 a) := hE24.blk kA
  have kR4 : Boxed w4 (w.heap.size + 1) 25 (.int .i64 0) := hE24.blk kR
  have kO4 : Boxed w4 w2.heap.size 25 (.int .i64 0) := hE4.blk (Boxed.new w2 _ _)
  have hB4 := (h.ext hE02).ext hE24
  have hE04 := hE02.trans hE24
  have zW := hW4.b5.lt
  simp only [World.size_alloc] at hW4 zW ⊢
  have hOF : ∀ x, w.heap.size ≤ x → x ∉ F := fun x hx hm => by have := hFlt x hm; omega
  have hst0 : St w4 [w2.heap.size] F b p xs es w4 := ⟨F, hB4, fun x hx => .inl hx, Turn.refl _ _⟩
  clear hB0 hF0 hE4
  have hloe' := Lib.hid hloe
  have hhie' := Lib.hid hhie
  clear hloe hhie
  have hBo : w2.heap.size < w4.heap.size := by omega
  have hnO : ∀ x, x ≠ w2.heap.size → w.heap.size ≤ x → x ∉ [w2.heap.size] ++ F := fun x h1 h2 hm => by
    rcases List.mem_append.1 hm with h | h
    · exact h1 (by simpa using h)
    · exact hOF x h2 h
  have zw2 : w.heap.size ≤ w2.heap.size := hE02.size
  have hgive := window1_gives b p lo hi ⟨hlo.1, by omega⟩ ⟨hhi.1, by omega⟩ (w2.heap.size + 1) w4.heap.size (fun k => getV xs (lo + (k : Int)))
    (LJ0 w4 w2.heap.size F b p xs es) (LJ w4 w2.heap.size F b p xs es a lo hi) (LY w4 w2.heap.size F b p xs es a lo hi)
    (fun W h => h.1.win hW4 ⟨hnO _ (by omega) (by omega), hnO _ (by omega) (by omega), hnO _ (by omega) (by omega)⟩)
    (fun pre W h => h.1.win hW4 ⟨hnO _ (by omega) (by omega), hnO _ (by omega) (by omega), hnO _ (by omega) (by omega)⟩)
    (fun W W' h k => ⟨h.1.ext k, k.blk h.2⟩) (fun pre W W' h k => ⟨h.1.ext k, k.blk h.2⟩)
    (fun W h => (h.1.call (fun F' hb => Br_bf b p xs es F' _ (by omega) (by omega) (hl.imp id (fun h => by omega)) W hb)).mono fun e W' ⟨h1, h2, h3, h4⟩ => ⟨h1, ⟨h2, (h3 _ hBo (hOF _ zw2)).trans h.2⟩, h4⟩)
    (fun k W hk h => by
      have hp : isPlace (lo + (k : Int)) xs.length := by unfold winN at hk; exact ⟨by omega, by omega⟩
      have hlen : ((winL lo hi fun k => getV xs (lo + (k : Int))).take k).length ≤ k := by simp; omega
      refine (St.call (B := w4.heap.size) h.1 (fun F' hb => Get_any b p xs _ F' (lo + (k : Int)) W hb (by omega) (hl.imp id (fun h => by rw [List.length_append, List.length_cons, logW_len]; omega)))).mono ?_
      rintro e W' ⟨h1, h2, h3, h4⟩
      refine ⟨h1, ⟨?_, (h3 _ hBo (hOF _ zw2)).trans h.2⟩, h4⟩
      rw [seenV_place hp] at h2
      simpa [logW] using h2)
  have hgive' := Lib.hid hgive
  clear hgive
  gi_wp2
  refine wp_range (gf := 166) (fb := #[]) (lb := #[.pointer (some ⟨w2.heap.size + 1, 0, none⟩), .pointer (some ⟨w2.heap.size + 1 + 2, 0, none⟩), .pointer (some ⟨w2.heap.size + 1 + 1, 0, none⟩)]) rfl (enters_of Try.func166 (by kernel_rfl) rfl) (encs := encW) (fun _ => rfl)
    hgive'.out
    (fun pre x a' W => LY w4 w2.heap.size F b p xs es a lo hi pre x W ∧ ∃ Bs, w4.heap.size ≤ Bs ∧ W.heap[Bs]? = some (.cells #[.int .i64 x.2] 25 (0, 0)) ∧
      a' = { tmps := #[.pointer (some ⟨b, 0, none⟩), .agg #[.int .i64 a], .int .i64 fr, .int .i64 to, undef, .pointer (some ⟨w.heap.size, 0, none⟩), undef, undef, .pointer (some ⟨w.heap.size + 1, 0, none⟩), .pointer (some ⟨w2.heap.size, 0, none⟩), .int .i64 x.1, .pointer (some ⟨Bs, 0, none⟩), .agg #[.int .i64 0], .pointer (some ⟨b, 0, none⟩), .int .i64 fr, .int .i64 to,
          .func (.func 166) #[] #[.pointer (some ⟨w2.heap.size + 1, 0, none⟩), .pointer (some ⟨w2.heap.size + 1 + 2, 0, none⟩), .pointer (some ⟨w2.heap.size + 1 + 1, 0, none⟩)], .int .i64 x.1, .agg #[.int .i64 x.2], undef, undef, undef, undef, undef, undef, undef], defers := [] })
    (fun W W' h k => ⟨h.1.book k, boxed_book h.2 k⟩) (fun pre W W' h k => ⟨h.1.book k, boxed_book h.2 k⟩)
    (fun pre x a' W W' ⟨h, Bs, h1, h2, h3⟩ k => ⟨⟨h.1.book k, boxed_book h.2 k⟩, Bs, h1, k.same _ _ (.inr rfl) h2, h3⟩)
    ⟨hst0, kO4⟩ ?assign ?body ?done
  case assign =>
    clear hgive'
    rintro l pre x W K hpx ⟨g0, g1⟩ hK
    have zg := g1.lt
    simp only [encW]
    gi_wp2
    refine hK _ _ ?_ ?_
    · exact (KeepsOthers.alloc _ _).from _
    · exact ⟨⟨g0.ext ((Ext.refl _).alloc' _), g1.alloc _⟩, W.heap.size, by obtain ⟨F', _, _, h⟩ := g0; exact h.size, World.alloc_heap_new W _, rfl⟩
  case body =>
    clear hgive'
    rintro l pre x a' W hpx ⟨⟨g0, g1⟩, Bs, hBs, hbs, rfl⟩
    have kA' := g0.boxed kA4 (hnO _ (by omega) (Nat.le_refl _))
    have hx1 : In64 x.1 := by
      have := winL_at x (hpx.subset (by simp))
      unfold In64
      omega
    have hx2 : In64 x.2 := winL_in (fun k => getV_in hxs _) x (hpx.subset (by simp))
    have hlf : In64 (loadF a pre) := loadF_in a pre (fun e he => winL_in (fun k => getV_in hxs _) e (hpx.subset (by simp [he])))
    have q1 := kA'.cell
    have q2 := g1.cell
    have q3 : W.cell? ⟨Bs, 0, none⟩ = some (.int .i64 x.2) := by rw [blk_cell hbs]; rfl
    gi_wp2
    refine Mix.wpIn_region_mixX 0 (.c 0 (.c 1 (.c 2 (.c 3 (.c 4 (.c 5 (.e 6 .done))))))) (by kernel_rfl) (by kernel_rfl) (Nat.zero_le _) (fun hap hapf => ?_)
    have d1 : ∀ z, (ap W z).cell? ⟨w.heap.size, 0, none⟩ = some (.int .i64 a) := fun z => (ap_ext W z).cell q1
    have d2 : ∀ z, (ap W z).cell? ⟨w2.heap.size, 0, none⟩ = some (.int .i64 (loadF a pre)) := fun z => (ap_ext W z).cell q2
    have d3 : ∀ z, (ap W z).cell? ⟨Bs, 0, none⟩ = some (.int .i64 x.2) := fun z => (ap_ext W z).cell q3
    repeat (refine Mix.mix_q rfl rfl rfl (fun K hK => ?_); (conv => arg 2; whnf); (first | (go_big_quiet_op; refine hK _ ?_) | (go_simp; refine hK _ ?_)); clear hK K)
    (refine Mix.mix_c rfl rfl (fun K hK => ?_); (conv => arg 2; whnf); go_simp; apply Exists.intro; refine ⟨fun _ => ?_, hK _ ?_⟩; exact is_any _ _ ha hx1 _; clear hK K)
    repeat (refine Mix.mix_q rfl rfl rfl (fun K hK => ?_); (conv => arg 2; whnf); (first | (go_big_quiet_op; refine hK _ ?_) | (go_simp; refine hK _ ?_)); clear hK K)
    (refine Mix.mix_c rfl rfl (fun K hK => ?_); (conv => arg 2; whnf); go_simp; apply Exists.intro; refine ⟨fun _ => ?_, hK _ ?_⟩; exact Select_any _ _ _ hx2 hlf _; clear hK K)
    refine Mix.mix_last rfl rfl (by kernel_rfl) (fun w5 hE5 K hK => ?_)
    (conv => arg 2; whnf)
    have E5 : Ext W w5 := (Ext.refl W).drew'.trans hE5
    have k5 : Boxed w5 w2.heap.size 25 (.int .i64 (loadF a pre)) := E5.blk g1
    have q5 := k5.cell
    have f5 := k5.frozen
    go_big_op
    refine hK _ _ (fun w6 hE6 => ?_)
    clear hK K
    (try dsimp only [Exit.then])
    have T6 : Turn [w2.heap.size] W w6 := ((Turn.of_ext E5).seq (turn_set (by simp))).seq (Turn.of_ext hE6)
    refine ⟨T6.keeps (fun y hy o ho => ?_), ((g0.ext E5).set (by simp) hBo (hOF _ zw2) _).ext hE6, ?_⟩
    · simp only [List.mem_singleton] at hy
      subst hy
      rw [show W.heap[w2.heap.size]? = _ from g1] at ho
      cases ho
      rfl
    · rw [loadF_snoc]
      exact hE6.blk (k5.set _)
  case done =>
    clear hgive'
    rintro D W hD ⟨g0, g1⟩ hK
    have kR' := g0.boxed kR4 (hnO _ (by omega) (by omega))
    have q1 := g1.cell
    have q2 := kR'.cell
    have f2 := kR'.frozen
    gi_wp2
    have hDl : D ≠ w.heap.size + 1 := by omega
    have hK2 : (W.setCell ⟨w.heap.size + 1, 0, none⟩ (.int .i64 (loadF a (winL lo hi fun k => getV xs (lo + (k : Int)))))).heap[D]? = some (.deferred (some [])) := (Below.heap_setCell _ _ _ _ hDl).trans hK
    refine ⟨by simp, .inl ⟨_, _, rfl, run_takeDeferred hK2, ?_⟩⟩
    have kF := boxed_turn (kR'.set (.int .i64 (loadF a (winL lo hi fun k => getV xs (lo + (k : Int)))))) (turn_put (D := D) (.deferred none)) (by simp; omega)
    have cF := kF.cell
    obtain ⟨F', hB, hF', hT⟩ := g0
    refine ⟨_, by simp [results, Try.results73, go_sem, cF]; rfl, rfl, F', ?_, ?_, fun x hx => (hF' x hx).imp id (fun h => by have := hE04.size; omega)⟩
    · have e : es ++ winE lo hi = es ++ (2, ((winN lo hi : Nat) : Int)) :: logW (winL lo hi fun k => getV xs (lo + (k : Int))) := by rw [logW_win]; rfl
      rw [e]
      refine hB.turn (G := [w.heap.size + 1, D]) ((turn_set (by simp)).seq (turn_mono (turn_put (D := D) _) (by simp))) (fun y hy hm => ?_)
      simp only [List.mem_cons, List.not_mem_nil, or_false] at hm
      rcases hm with rfl | rfl
      · rcases hF' _ hy with h | h
        · exact hOF _ (by omega) h
        · omega
      · have := hB.cells _ hy _ hK
        cases this
    · refine (((Turn.of_ext hE04).trans hT (fun y hy => ?_)).trans (turn_set (F := [w.heap.size + 1]) (by simp)) (fun y hy => ?_)).trans (turn_put (D := D) _) (fun y hy => ?_)
      · rcases List.mem_append.1 hy with h | h
        · simp only [List.mem_singleton] at h
          exact .inr (by omega)
        · exact .inl h
      · simp only [List.mem_singleton] at hy
        exact .inr (by omega)
      · simp only [List.mem_singleton] at hy
        have := hE04.size
        exact .inr (by omega)
end Go.Proofs.Ytoipadeeochbnaa
