import Derived.Test.YtoipadeeochbnaaScan4
namespace Go.Proofs.Ytoipadeeochbnaa
open Go.RowKit Mix
set_option linter.unusedVariables false
attribute [local go_sem] Mix.calm Oper.quietUpon Oper.semAt_some
/-! What is laid in a window: at each place a word of the place and of what lay there -/
def layF (f : Int → Int → Int) (xs : List Int) (l : List (Int × Int)) : List Int := l.foldl (fun xs e => setV xs e.1 (f e.1 e.2)) xs
theorem layF_snoc (f : Int → Int → Int) (xs : List Int) (l : List (Int × Int)) (e : Int × Int) : layF f xs (l ++ [e]) = setV (layF f xs l) e.1 (f e.1 e.2) := by simp [layF]
theorem layF_len (f : Int → Int → Int) (xs : List Int) (l : List (Int × Int)) : (layF f xs l).length = xs.length := by
  induction l generalizing xs with
  | nil => rfl
  | cons e l ih => exact (ih _).trans (setV_len _ _ _)
theorem getV_set (xs : List Int) (i j x : Int) : getV (setV xs i x) j = if i = j ∧ isPlace i xs.length then x else getV xs j := by
  by_cases h : isPlace i xs.length
  · obtain ⟨h0, h1⟩ := h
    have hs : setV xs i x = xs.set i.toNat x := by unfold setV; rw [if_pos ⟨h0, h1⟩]
    rw [hs]
    by_cases hj : i = j
    · subst hj
      rw [if_pos ⟨rfl, h0, h1⟩]
      unfold getV
      rw [if_pos ⟨h0, by simpa using h1⟩]
      simp [List.getD_eq_getElem?_getD]
      rw [List.getElem?_set_self (by omega)]
      rfl
    · rw [if_neg (fun h => hj h.1)]
      unfold getV
      simp only [List.length_set]
      split
      · rename_i hp
        obtain ⟨p0, p1⟩ := hp
        simp only [List.getD_eq_getElem?_getD]
        rw [List.getElem?_set_ne (by omega)]
      · rfl
  · have hs : setV xs i x = xs := by unfold setV; rw [if_neg h]
    rw [hs, if_neg (fun k => h k.2)]
theorem getV_lay (f : Int → Int → Int) (xs : List Int) (l : List (Int × Int)) (j : Int) (h : ∀ e ∈ l, e.1 ≠ j) : getV (layF f xs l) j = getV xs j := by
  induction l generalizing xs with
  | nil => rfl
  | cons e l ih =>
    have := ih (setV xs e.1 (f e.1 e.2)) (fun x hx => h x (List.mem_cons_of_mem _ hx))
    refine (show getV (layF f xs (e :: l)) j = getV (layF f (setV xs e.1 (f e.1 e.2)) l) j from rfl).trans (this.trans ?_)
    rw [getV_set, if_neg (fun k => h e (List.mem_cons_self ..) k.1)]
/-- What the window's places are, when k of them are done. -/
theorem win_take (lo hi : Int) (val : Nat → Int) (k : Nat) : ∀ e ∈ (winL lo hi val).take k, e.1 < lo + (k : Int) := by
  intro e he
  obtain ⟨j, hj⟩ := List.getElem?_of_mem he
  rw [List.getElem?_take] at hj
  split at hj
  · rename_i hjk
    by_cases hjw : j < winN lo hi
    · rw [winL_get lo hi val hjw] at hj
      cases hj
      simp
      omega
    · rw [List.getElem?_eq_none (by rw [winL_len]; omega)] at hj
      cases hj
  · cases hj
def logB (l : List (Int × Int)) : List (Int × Int) := l.flatMap fun e => [(1, e.1), (1, e.1)]
theorem logB_snoc (l : List (Int × Int)) (e : Int × Int) : logB (l ++ [e]) = logB l ++ [(1, e.1)] ++ [(1, e.1)] := by simp [logB]
theorem logB_len (l : List (Int × Int)) : (logB l).length = 2 * l.length := by
  induction l with
  | nil => rfl
  | cons e l ih => simp [logB] at ih ⊢; omega
def winB (lo hi : Int) : List (Int × Int) := (2, ((winN lo hi : Nat) : Int)) :: (List.range (winN lo hi)).flatMap fun (k : Nat) => [(1, lo + (k : Int)), (1, lo + (k : Int))]
theorem logB_win (lo hi : Int) (val : Nat → Int) : logB (winL lo hi val) = (List.range (winN lo hi)).flatMap fun (k : Nat) => [(1, lo + (k : Int)), (1, lo + (k : Int))] := by simp [logB, winL, List.flatMap_map]
/-- The buffer after a window is laid. -/
def layV (f : Int → Int → Int) (xs : List Int) (lo hi : Int) : List Int := layF f xs (winL lo hi fun k => getV xs (lo + (k : Int)))
theorem lay_get (f : Int → Int → Int) (xs : List Int) (lo hi : Int) (k : Nat) : getV (layF f xs ((winL lo hi fun k => getV xs (lo + (k : Int))).take k)) (lo + (k : Int)) = getV xs (lo + (k : Int)) :=
  getV_lay f xs _ _ (fun e he => by have := win_take lo hi _ k e he; omega)
def storeW (a s : Int) (i x : Int) : Int := sel (decide (a = i)) s x
def storeV (xs : List Int) (a s lo hi : Int) : List Int := layV (storeW a s) xs lo hi
def SJ (w4 : World) (F : List Nat) (b : Nat) (p : Option Nat) (f : Int → Int → Int) (xs : List Int) (es : List (Int × Int)) (lo hi : Int) (pre : List (Int × Int)) (W : World) : Prop :=
  St w4 [] F b p (layF f xs pre) (es ++ (2, ((winN lo hi : Nat) : Int)) :: logB pre) W
def SY (w4 : World) (F : List Nat) (b : Nat) (p : Option Nat) (f : Int → Int → Int) (xs : List Int) (es : List (Int × Int)) (lo hi : Int) (pre : List (Int × Int)) (x : Int × Int) (W : World) : Prop :=
  St w4 [] F b p (layF f xs pre) (es ++ (2, ((winN lo hi : Nat) : Int)) :: logB pre ++ [(1, x.1)]) W
theorem KeepsFrom.of_ext {B : Nat} {W W' : World} (h : Ext W W') : KeepsFrom B W W' := ⟨h.size, fun k o _ hk _ => h.blk hk⟩
set_option maxHeartbeats 2000000 in
set_option maxRecDepth 100000 in
theorem Store_bf (b : Nat) (p : Option Nat) (xs : List Int) (es : List (Int × Int)) (F : List Nat) (a s fr to : Int) (ha : In64 a) (hs : In64 s) (hxs : ∀ x ∈ xs, In64 x) (hx : xs.length ≤ 1000) (hl : p = none ∨ es.length + 1 + 2 * xs.length ≤ 316) (w : World) (h : Bf w b p xs es F) :
    Calls Try.prog 72 #[.pointer (some ⟨b, 0, none⟩), .agg #[.int .i64 a], .agg #[.int .i64 s], .int .i64 fr, .int .i64 to] w
      (BTold (.tuple #[]) b p (storeV xs a s (clipI fr 0 xs.length) (clipI to 0 xs.length)) (es ++ winB (clipI fr 0 xs.length) (clipI to 0 xs.length)) F w) := by
  have hFlt := h.lt
  have hlo := clipI_bd fr xs.length
  have hhi := clipI_bd to xs.length
  obtain ⟨lo, hloe⟩ : ∃ lo, lo = clipI fr 0 xs.length := ⟨_, rfl⟩
  obtain ⟨hi, hhie⟩ : ∃ hi, hi = clipI to 0 xs.length := ⟨_, rfl⟩
  rw [← hloe] at hlo ⊢
  rw [← hhie] at hhi ⊢
  have hn : winN lo hi ≤ xs.length := by unfold winN; omega
  refine (callsIn_wide (n := 9)).1 (callsIn_of_wp_marks Try.func72 rfl trivial ?_ rfl)
  simp only [Try.ntmps72, List.size_toArray, List.length_cons, List.length_nil, Nat.reduceAdd, Nat.reduceSub, Array.replicate_succ, Array.replicate_zero, List.push_toArray, List.append_toArray, List.nil_append, List.cons_append]
  have hloe' := Lib.hid hloe
  have hhie' := Lib.hid hhie
  clear hloe hhie
  gi_wp2_with fail
  have hE1 : Ext w (((w.alloc (.cells #[.pointer (some ⟨b, 0, none⟩)] 32)).alloc (.cells #[.int .i64 a] 25)).alloc (.cells #[.int .i64 s] 25)) := (((Ext.refl w).alloc' _).alloc' _).alloc' _
  have kB : Boxed (((w.alloc (.cells #[.pointer (some ⟨b, 0, none⟩)] 32)).alloc (.cells #[.int .i64 a] 25)).alloc (.cells #[.int .i64 s] 25)) w.heap.size 32 (.pointer (some ⟨b, 0, none⟩)) := ((Boxed.new w _ _).alloc _).alloc _
  have kA : Boxed (((w.alloc (.cells #[.pointer (some ⟨b, 0, none⟩)] 32)).alloc (.cells #[.int .i64 a] 25)).alloc (.cells #[.int .i64 s] 25)) (w.heap.size + 1) 25 (.int .i64 a) := by
    have := (Boxed.new (w.alloc (.cells #[.pointer (some ⟨b, 0, none⟩)] 32)) 25 (.int .i64 a)).alloc (.cells #[.int .i64 s] 25)
    rwa [World.size_alloc] at this
  have kS : Boxed (((w.alloc (.cells #[.pointer (some ⟨b, 0, none⟩)] 32)).alloc (.cells #[.int .i64 a] 25)).alloc (.cells #[.int .i64 s] 25)) (w.heap.size + 2) 25 (.int .i64 s) := by
    have := Boxed.new ((w.alloc (.cells #[.pointer (some ⟨b, 0, none⟩)] 32)).alloc (.cells #[.int .i64 a] 25)) 25 (.int .i64 s)
    rwa [World.size_alloc, World.size_alloc] at this
  generalize ((w.alloc (.cells #[.pointer (some ⟨b, 0, none⟩)] 32)).alloc (.cells #[.int .i64 a] 25)).alloc (.cells #[.int .i64 s] 25) = w1 at *
  have zS := kS.lt
  obtain ⟨v0, Fr0, hB0, hF0⟩ := h.ext hE1
  refine ⟨trivial, (callsIn_wide.2 (window_any b p xs es v0 Fr0 fr to _ hB0)).mono ?_⟩
  rw [← hloe'.out, ← hhie'.out]
  rintro e w4 ⟨rfl, hW4, hE4⟩
  have kB4 : Boxed w4 w.heap.size 32 (.pointer (some ⟨b, 0, none⟩)) := hE4.blk kB
  have kA4 : Boxed w4 (w.heap.size + 1) 25 (.int .i64 a) := hE4.blk kA
  have kS4 : Boxed w4 (w.heap.size + 2) 25 (.int .i64 s) := hE4.blk kS
  have hE04 := hE1.trans hE4
  have hB4 := h.ext hE04
  have zW := hW4.b5.lt
  have zw := hE04.size
  have hnO : ∀ x, w.heap.size ≤ x → x ∉ ([] : List Nat) ++ F := fun x hx hm => by
    have := hFlt x (by simpa using hm)
    omega
  have hst0 : St w4 [] F b p xs es w4 := ⟨F, hB4, fun x hx => .inl hx, Turn.refl _ _⟩
  clear hB0 hF0 hE4 kB kA kS
  have hgive := window1_gives b p lo hi ⟨hlo.1, by omega⟩ ⟨hhi.1, by omega⟩ w1.heap.size w4.heap.size (fun k => getV xs (lo + (k : Int)))
    (St w4 [] F b p xs es) (SJ w4 F b p (storeW a s) xs es lo hi) (SY w4 F b p (storeW a s) xs es lo hi)
    (fun W h => h.win hW4 ⟨hnO _ (by omega), hnO _ (by omega), hnO _ (by omega)⟩)
    (fun pre W h => St.win h hW4 ⟨hnO _ (by omega), hnO _ (by omega), hnO _ (by omega)⟩)
    (fun W W' h k => h.ext k) (fun pre W W' h k => St.ext h k)
    (fun W h => (h.call (fun F' hb => Br_bf b p xs es F' _ (by omega) (by omega) (hl.imp id (fun h => by omega)) W hb)).mono fun e W' ⟨h1, h2, h3, h4⟩ => ⟨h1, h2, h4⟩)
    (fun k W hk h => by
      have hp : isPlace (lo + (k : Int)) (layF (storeW a s) xs ((winL lo hi fun k => getV xs (lo + (k : Int))).take k)).length := by rw [layF_len]; unfold winN at hk; exact ⟨by omega, by omega⟩
      have hlen : ((winL lo hi fun k => getV xs (lo + (k : Int))).take k).length ≤ k := by simp; omega
      refine (St.call (B := w4.heap.size) h (fun F' hb => Get_any b p _ _ F' (lo + (k : Int)) W hb (by rw [layF_len]; omega) (hl.imp id (fun h => by rw [List.length_append, List.length_cons, logB_len]; omega)))).mono ?_
      rintro e W' ⟨h1, h2, h3, h4⟩
      rw [lay_get] at h1
      refine ⟨h1, ?_, h4⟩
      rw [seenV_place hp] at h2
      simpa [SY] using h2)
  have hgive' := Lib.hid hgive
  clear hgive
  have hl' := Lib.hid hl
  clear hl
  gi_wp2
  refine wp_range (gf := 166) (fb := #[]) (lb := #[.pointer (some ⟨w1.heap.size, 0, none⟩), .pointer (some ⟨w1.heap.size + 2, 0, none⟩), .pointer (some ⟨w1.heap.size + 1, 0, none⟩)]) rfl (enters_of Try.func166 (by kernel_rfl) rfl) (encs := encW) (fun _ => rfl)
    hgive'.out
    (fun pre x a' W => SY w4 F b p (storeW a s) xs es lo hi pre x W ∧ ∃ Bs, w4.heap.size ≤ Bs ∧ W.heap[Bs]? = some (.cells #[.int .i64 x.2] 25 (0, 0)) ∧
      a' = { tmps := #[.pointer (some ⟨b, 0, none⟩), .agg #[.int .i64 a], .agg #[.int .i64 s], .int .i64 fr, .int .i64 to, .pointer (some ⟨w.heap.size, 0, none⟩), .pointer (some ⟨w.heap.size + 1, 0, none⟩), .pointer (some ⟨w.heap.size + 1 + 1, 0, none⟩), undef, undef, .int .i64 x.1, .pointer (some ⟨Bs, 0, none⟩),
          .pointer (some ⟨b, 0, none⟩), .int .i64 fr, .int .i64 to,
          .func (.func 166) #[] #[.pointer (some ⟨w1.heap.size, 0, none⟩), .pointer (some ⟨w1.heap.size + 2, 0, none⟩), .pointer (some ⟨w1.heap.size + 1, 0, none⟩)], .int .i64 x.1, .agg #[.int .i64 x.2], undef, undef, undef, undef, undef, undef, undef, undef, undef], defers := [] })
    (fun W W' h k => h.book k) (fun pre W W' h k => St.book h k)
    (fun pre x a' W W' ⟨h, Bs, h1, h2, h3⟩ k => ⟨St.book h k, Bs, h1, k.same _ _ (.inr rfl) h2, h3⟩)
    hst0 ?assign ?body ?done
  case assign =>
    clear hgive'
    rintro l pre x W K hpx g0 hK
    simp only [encW]
    gi_wp2
    refine hK _ _ ?_ ?_
    · exact (KeepsOthers.alloc _ _).from _
    · exact ⟨St.ext g0 ((Ext.refl _).alloc' _), W.heap.size, by obtain ⟨F', _, _, h⟩ := g0; exact h.size, World.alloc_heap_new W _, rfl⟩
  case body =>
    clear hgive'
    rintro l pre x a' W hpx ⟨g0, Bs, hBs, hbs, rfl⟩
    have kB' := St.boxed g0 kB4 (hnO _ (by omega))
    have kA' := St.boxed g0 kA4 (hnO _ (by omega))
    have kS' := St.boxed g0 kS4 (hnO _ (by omega))
    have hx1 : In64 x.1 := by
      have := winL_at x (hpx.subset (by simp))
      unfold In64
      omega
    have hx2 : In64 x.2 := winL_in (fun k => getV_in hxs _) x (hpx.subset (by simp))
    have q1 := kB'.cell
    have q2 := kA'.cell
    have q4 := kS'.cell
    have q3 : W.cell? ⟨Bs, 0, none⟩ = some (.int .i64 x.2) := by rw [blk_cell hbs]; rfl
    gi_wp2
    refine Mix.wpIn_region_mixX 0 (.c 0 (.c 1 (.c 2 (.c 3 (.c 4 (.c 5 (.c 6 (.c 7 (.e 8 .done))))))))) (by kernel_rfl) (by kernel_rfl) (Nat.zero_le _) (fun hap hapf => ?_)
    have d1 : ∀ z, (ap W z).cell? ⟨w.heap.size, 0, none⟩ = some (.pointer (some ⟨b, 0, none⟩)) := fun z => (ap_ext W z).cell q1
    have d2 : ∀ z, (ap W z).cell? ⟨w.heap.size + 1, 0, none⟩ = some (.int .i64 a) := fun z => (ap_ext W z).cell q2
    have d3 : ∀ z, (ap W z).cell? ⟨Bs, 0, none⟩ = some (.int .i64 x.2) := fun z => (ap_ext W z).cell q3
    have d4 : ∀ z, (ap W z).cell? ⟨w.heap.size + 1 + 1, 0, none⟩ = some (.int .i64 s) := fun z => (ap_ext W z).cell q4
    repeat (refine Mix.mix_q rfl rfl rfl (fun K hK => ?_); (conv => arg 2; whnf); (first | (go_big_quiet_op; refine hK _ ?_) | (go_simp; refine hK _ ?_)); clear hK K)
    (refine Mix.mix_c rfl rfl (fun K hK => ?_); (conv => arg 2; whnf); go_simp; apply Exists.intro; refine ⟨fun _ => ?_, hK _ ?_⟩; exact is_any _ _ ha hx1 _; clear hK K)
    repeat (refine Mix.mix_q rfl rfl rfl (fun K hK => ?_); (conv => arg 2; whnf); (first | (go_big_quiet_op; refine hK _ ?_) | (go_simp; refine hK _ ?_)); clear hK K)
    (refine Mix.mix_c rfl rfl (fun K hK => ?_); (conv => arg 2; whnf); go_simp; apply Exists.intro; refine ⟨fun _ => ?_, hK _ ?_⟩; exact Select_any _ _ _ hs hx2 _; clear hK K)
    refine Mix.mix_last rfl rfl (by kernel_rfl) (fun w5 hE5 K hK => ?_)
    (conv => arg 2; whnf)
    have E5 : Ext W w5 := (Ext.refl W).drew'.trans hE5
    go_big_op
    have hpl : isPlace x.1 (layF (storeW a s) xs pre).length := by
      have h1 := winL_at x (hpx.subset (by simp))
      rw [layF_len]
      exact ⟨by omega, by omega⟩
    have hpn : pre.length < winN lo hi := by
      have := hpx.length_le
      rw [winL_len] at this
      simp at this
      omega
    refine (St.call (B := w4.heap.size) (St.ext g0 E5) (fun F' hb => Set_any b p _ _ F' x.1 _ w5 hb (by rw [layF_len]; omega) (hl'.out.imp id (fun h => by rw [List.length_append, List.length_append, List.length_cons, logB_len]; simp; omega)))).mono ?_
    rintro e w6 ⟨rfl, h2, h3, h4⟩
    refine hK _ _ (fun w7 hE7 => ?_)
    clear hK K
    (try dsimp only [Exit.then])
    refine ⟨((KeepsFrom.of_ext E5).trans h4).trans (KeepsFrom.of_ext hE7), ?_⟩
    have := St.ext h2 hE7
    rw [seenV_place hpl] at this
    unfold SJ
    rw [layF_snoc, logB_snoc]
    simpa [storeW] using this
  case done =>
    clear hgive'
    rintro D W hD g0 hK
    gi_wp2
    refine ⟨by simp, .inl ⟨_, _, rfl, run_takeDeferred hK, ?_⟩⟩
    obtain ⟨F', hB, hF', hT⟩ := g0
    refine ⟨_, by simp [results, Try.results72, go_sem], rfl, F', ?_, ?_, fun x hx => (hF' x hx).imp id (fun h => by omega)⟩
    · have e : es ++ winB lo hi = es ++ (2, ((winN lo hi : Nat) : Int)) :: logB (winL lo hi fun k => getV xs (lo + (k : Int))) := by rw [logB_win]; rfl
      rw [e]
      refine hB.turn (G := [D]) (turn_put (D := D) _) (fun y hy hm => ?_)
      simp only [List.mem_cons, List.not_mem_nil, or_false] at hm
      subst hm
      have := hB.cells _ hy _ hK
      cases this
    · refine ((Turn.of_ext hE04).trans hT (fun y hy => ?_)).trans (turn_put (D := D) _) (fun y hy => ?_)
      · exact .inl (by simpa using hy)
      · simp only [List.mem_singleton] at hy
        exact .inr (by omega)
end Go.Proofs.Ytoipadeeochbnaa
