import Derived.Test.YtoipadeeochbnaaRef5
import Derived.Test.YtoipadeeochbnaaRef6
namespace Go.Proofs.Ytoipadeeochbnaa
open Go.RowKit Mix
set_option linter.unusedVariables false
attribute [local go_sem] Mix.calm Oper.quietUpon
set_option maxRecDepth 100000 in
theorem numSame_any (a1 a2 : Option Addr) (c1 c2 : Nat) (xs : List Int) (w : World) (h1 : ArgInts w .i64 a1 xs) (h2 : ArgInts w .i64 a2 xs) (hl : xs.length ≤ 1000) :
    Calls Try.prog 66 #[.slice a1 xs.length c1, .slice a2 xs.length c2] w fun e w' => e = .returned (.bool true) ∧ Ext w w' := by
  have hd0 : ((xs.length : Int) == (xs.length : Int)) = true := by simp
  go_enter Try.func66, Try.ntmps66
  go_wp2
  go_loopw [5] (fun t wr => ∃ k : Nat, k ≤ xs.length ∧ t = .int .i64 k ∧ Ext w wr) (fun t _ => xs.length - (intOf t).toNat)
  case atStart => exact ⟨0, Nat.zero_le _, rfl, Ext.refl _⟩
  case round =>
    obtain ⟨k, hk, rfl, hEk⟩ := hrel
    by_cases hlt : k < xs.length
    · obtain ⟨x, hx⟩ : ∃ x, xs[k]? = some x := ⟨_, List.getElem?_eq_getElem hlt⟩
      obtain ⟨g1, rfl, y1⟩ := (h1.ext hEk) k x hx
      obtain ⟨g2, rfl, y2⟩ := (h2.ext hEk) k x hx
      clear hx
      go_wp2
      refine Mix.wp_region_mixX 0 (.c 0 (.c 1 (.c 2 (.c 3 (.c 4 (.c 5 (.c 6 (.c 7 (.c 8 .done))))))))) (by kernel_rfl) (by kernel_rfl) (Nat.zero_le _) (fun hap hapf => ?_)
      have d1 : ∀ z, (ap wr z).cell? (g1.add k) = some (.int .i64 x) := fun z => (ap_ext wr z).cell y1
      have d2 : ∀ z, (ap wr z).cell? (g2.add k) = some (.int .i64 x) := fun z => (ap_ext wr z).cell y2
      repeat (refine Mix.mix_q rfl rfl rfl (fun K hK => ?_); (conv => arg 2; whnf); (first | (go_big_quiet_op; refine hK _ ?_) | (go_simp; refine hK _ ?_)); clear hK K)
      refine (Mix.mix_nil (fun w9 hE9 => ?_))
      clear hap hapf d1 d2 y1 y2
      (try dsimp only [Exit.then])
      go_wp2
      go_roundw
      case rel => exact ⟨k + 1, by omega, by go_num, hEk.trans ((Ext.refl _).drew'.trans hE9)⟩
      case measure => simp [intOf]; omega
    · go_wp2
      go_ret
      exact ⟨rfl, hEk⟩
set_option maxRecDepth 100000 in
set_option maxHeartbeats 1000000 in
theorem refOpen_any (vL vE : Value) (xs : List Int) (es : List (Int × Int)) (w : World) (h : RT w vL vE xs es) (hx : xs.length ≤ 100) (hl : es.length ≤ 500) :
    Calls Try.prog 65 #[.agg #[vL, vE]] w fun e w' =>
      ∃ vE', e = .returned (.agg #[vL, vE']) ∧ RT w' vL vE' xs (es ++ opens xs.length) ∧ NewOr w vE vE' ∧ Ext w w' := by
  obtain ⟨aL, cL, rfl⟩ := own_form h.L
  obtain ⟨aE, cE, rfl⟩ := own_formS h.E
  have hE1 : Ext w ((w.alloc (.cells #[.slice aL xs.length cL, .slice aE es.length cE] 82)).alloc (.cells #[.slice none 0 0, .slice none 0 0] 82)) := ((Ext.refl w).alloc' _).alloc' _
  have k1 : ((w.alloc (.cells #[.slice aL xs.length cL, .slice aE es.length cE] 82)).alloc (.cells #[.slice none 0 0, .slice none 0 0] 82)).heap[w.heap.size]? = some (.cells #[.slice aL xs.length cL, .slice aE es.length cE] 82 (0, 0)) :=
    ((Ext.refl _).alloc' _).blk (World.alloc_heap_new w _)
  have k2 : ((w.alloc (.cells #[.slice aL xs.length cL, .slice aE es.length cE] 82)).alloc (.cells #[.slice none 0 0, .slice none 0 0] 82)).heap[w.heap.size + 1]? = some (.cells #[.slice none 0 0, .slice none 0 0] 82 (0, 0)) := by
    have := World.alloc_heap_new (w.alloc (.cells #[.slice aL xs.length cL, .slice aE es.length cE] 82)) (.cells #[.slice none 0 0, .slice none 0 0] 82)
    rwa [World.size_alloc] at this
  go_enter Try.func65, Try.ntmps65
  go_wp2
  obtain ⟨w1, hw1⟩ : ∃ w1, w1 = (w.alloc (.cells #[.slice aL xs.length cL, .slice aE es.length cE] 82)).alloc (.cells #[.slice none 0 0, .slice none 0 0] 82) := ⟨_, rfl⟩
  rw [← hw1] at hE1 k1 k2 ⊢
  clear hw1
  have hJ0 : RB w w.heap.size aL cL (.slice aE es.length cE) xs (es ++ opens 0) w1 := by
    have e : es ++ opens 0 = es := by simp [opens]
    rw [e]
    exact ⟨aE, cE, k1, h.ext hE1, fun y hy => .inl hy⟩
  go_loopw [3] (fun t wr => ∃ k : Nat, k ≤ xs.length ∧ t = .int .i64 k ∧ RB w w.heap.size aL cL (.slice aE es.length cE) xs (es ++ opens k) wr ∧ wr.heap[w.heap.size + 1]? = some (.cells #[.slice none 0 0, .slice none 0 0] 82 (0, 0)) ∧ Ext w wr) (fun t _ => xs.length - (intOf t).toNat)
  case atStart => exact ⟨0, Nat.zero_le _, rfl, hJ0, k2, hE1⟩
  case round =>
    clear hJ0 k1 k2 hE1
    obtain ⟨k, hk, rfl, ⟨aE', cE', bb, hRT, hNO⟩, hres, hEr⟩ := hrel
    have hlogl : (es ++ opens k).length ≤ 700 := by rw [List.length_append, opens_len]; omega
    have zr := blk_lt hres
    have zw := hEr.size
    obtain ⟨es1, hes1⟩ : ∃ es1, es1 = es ++ opens k := ⟨_, rfl⟩
    have hsn : es1 ++ [(3, 0)] = es ++ opens (k + 1) := by rw [hes1, List.append_assoc, opens_succ]
    rw [← hes1] at hRT bb hNO hlogl
    have hes1' := Lib.hid hes1
    have hsn' := Lib.hid hsn
    clear hes1 hsn
    have q0 : wr.cell? ⟨w.heap.size, 0, none⟩ = some (.slice aL xs.length cL) := by rw [blk_cell bb]; rfl
    have q1 : wr.cell? ⟨w.heap.size, 1, none⟩ = some (.slice aE' es1.length cE') := by rw [blk_cell bb]; rfl
    by_cases hlt : k < xs.length
    · have mA := refAdd_any (.slice aE' es1.length cE') es1 3 0 wr hRT.E hRT.nE (by omega)
      go_wp2_with fail
      refine Calls.mono mA ?_
      clear mA
      rintro e w3 ⟨v3, rfl, hr3, hE3⟩
      obtain ⟨a3, c3, rfl⟩ := own_formS hr3
      generalize hn3 : (es1 ++ [(3, 0)]).length = n3 at hr3 ⊢
      have hn3' := Lib.hid hn3
      clear hn3
      have b3 := hE3.blk bb
      have r3 := hE3.blk hres
      have p0 : w3.cell? ⟨w.heap.size, 0, none⟩ = some (.slice aL xs.length cL) := by rw [blk_cell b3]; rfl
      have p1 : w3.cell? ⟨w.heap.size, 1, none⟩ = some (.slice aE' es1.length cE') := by rw [blk_cell b3]; rfl
      have p2 : w3.frozen? ⟨w.heap.size, 1, none⟩ = false := blk_free b3 1
      have z3 := blk_lt r3
      have T3 : Turn [w.heap.size] w3 (w3.setCell ⟨w.heap.size, 1, none⟩ (.slice a3 n3 c3)) := turn_set (by simp)
      have hE0F : Ext w (w3.setCell ⟨w.heap.size, 1, none⟩ (.slice a3 n3 c3)) := (hEr.trans hE3).trans' T3 (fun y hy => by simp at hy; omega)
      have b4 : (w3.setCell ⟨w.heap.size, 1, none⟩ (.slice a3 n3 c3)).heap[w.heap.size]? = some (.cells #[.slice aL xs.length cL, .slice a3 n3 c3] 82 (0, 0)) := blk_set b3
      have r4 := (T3.block (w.heap.size + 1) z3 (by simp)).trans r3
      have hrF := ownsRow_turn hr3 T3 (fun y e => by
        have := (hr3.lt y e).1
        simp
        omega)
      have hfin : RB w w.heap.size aL cL (.slice aE es.length cE) xs (es ++ opens (k + 1)) (w3.setCell ⟨w.heap.size, 1, none⟩ (.slice a3 n3 c3)) := by
        rw [← hsn'.out]
        refine ⟨a3, c3, by rw [hn3'.out]; exact b4, ⟨ownsRow_turn h.L (F := []) (Turn.of_ext hE0F) (by simp), ?_, fun hc => by simp at hc⟩, fun y hy => .inr ?_⟩
        · rw [hn3'.out]
          exact own_base hrF
        · rw [hn3'.out] at hy
          have := (hr3.lt y (Option.mem_toList.1 hy)).1
          omega
      have hFF := Lib.hid (And.intro hfin (And.intro r4 hE0F))
      clear hfin r4 hE0F hrF b4 T3 hr3 b3 r3 q0 q1 hRT bb hNO hres hEr hE3
      go_wp2
      go_roundw
      case rel => exact ⟨k + 1, by omega, by go_num, hFF.out.1, hFF.out.2.1, hFF.out.2.2⟩
      case measure => simp [intOf]; omega
    · have hkn : k = xs.length := by omega
      subst hkn
      have s0 : wr.cell? ⟨w.heap.size + 1, 0, none⟩ = some (.slice none 0 0) := by rw [blk_cell hres]; rfl
      have s1 : wr.cell? ⟨w.heap.size + 1, 1, none⟩ = some (.slice none 0 0) := by rw [blk_cell hres]; rfl
      have f0 : wr.frozen? ⟨w.heap.size + 1, 0, none⟩ = false := blk_free hres 0
      have f1 : wr.frozen? ⟨w.heap.size + 1, 1, none⟩ = false := blk_free hres 1
      go_wp2
      refine bodyPost_ret (v := _) (by simp [results, Try.results65, go_sem, q0, q1, s0, s1]; rfl) rfl ?_
      have TF : Turn [w.heap.size + 1] wr ((wr.setCell ⟨w.heap.size + 1, 0, none⟩ (.slice aL xs.length cL)).setCell ⟨w.heap.size + 1, 1, none⟩ (.slice aE' es1.length cE')) := (turn_set (by simp)).seq (turn_set (by simp))
      refine ⟨_, rfl, hes1'.out ▸ hRT.turn TF (fun y hy hm => ?_) (fun y hy hm => ?_), fun y hy => (hNO y hy).imp id (fun h => by omega), hEr.trans' TF (fun y hy => by simp at hy; omega)⟩
      · have := (h.L.lt y (Option.mem_toList.1 hy)).2
        simp only [List.mem_singleton] at hm
        omega
      · simp only [List.mem_singleton] at hm
        subst hm
        rcases hNO _ hy with h2 | h2
        · have := (h.E.lt _ (Option.mem_toList.1 h2)).2
          omega
        · omega
end Go.Proofs.Ytoipadeeochbnaa
