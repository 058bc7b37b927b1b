import Derived.Test.YtoipadeeochbnaaRef3
namespace Go.Proofs.Ytoipadeeochbnaa
open Go.RowKit Mix
set_option linter.unusedVariables false
attribute [local go_sem] Mix.calm Oper.quietUpon
theorem refWin_any (aL aE : Option Addr) (n cL nE cE : Nat) (fr to : Int) (hn : n ≤ 1000) (w : World) :
    Calls Try.prog 165 #[.agg #[.slice aL n cL, .slice aE nE cE], .int .i64 fr, .int .i64 to] w fun e w' => e = .returned (.tuple #[.int .i64 (clipI fr 0 n), .int .i64 (clipI to 0 n)]) ∧ Ext w w' := by
  obtain ⟨m1, em1⟩ : ∃ m, (if (n : Int) < fr then (n : Int) else fr) = m := ⟨_, rfl⟩
  obtain ⟨m2, em2⟩ : ∃ m, (if (n : Int) < to then (n : Int) else to) = m := ⟨_, rfl⟩
  have em3 : (if 0 < m1 then m1 else 0) = clipI fr 0 n := by unfold clipI; rw [← em1]; split <;> split <;> (try split) <;> omega
  have em4 : (if 0 < m2 then m2 else 0) = clipI to 0 n := by unfold clipI; rw [← em2]; split <;> split <;> (try split) <;> omega
  generalize clipI fr 0 n = x1 at *
  generalize clipI to 0 n = x2 at *
  have em1' := Lib.hid em1
  have em2' := Lib.hid em2
  have em3' := Lib.hid em3
  have em4' := Lib.hid em4
  go_enter Try.func165, Try.ntmps165
  go_wp2
  have k1 : (w.alloc (.cells #[.slice aL n cL, .slice aE nE cE] 82)).heap[w.heap.size]? = some (.cells #[.slice aL n cL, .slice aE nE cE] 82 (0, 0)) := World.alloc_heap_new w _
  have hE1 : Ext w (w.alloc (.cells #[.slice aL n cL, .slice aE nE cE] 82)) := (Ext.refl w).alloc' _
  generalize w.alloc (.cells #[.slice aL n cL, .slice aE nE cE] 82) = w1 at *
  have q0 : w1.cell? ⟨w.heap.size, 0, none⟩ = some (.slice aL n cL) := by rw [blk_cell k1]; rfl
  refine Mix.wp_region_mixX 0 (.c 0 (.c 1 (.c 2 (.c 3 (.c 4 (.c 5 (.c 6 (.c 7 (.c 8 (.c 9 (.c 10 (.c 11 (.c 12 (.c 13 .done)))))))))))))) (by kernel_rfl) (by kernel_rfl) (Nat.zero_le _) (fun hap hapf => ?_)
  have d0 : ∀ z, (ap w1 z).cell? ⟨w.heap.size, 0, none⟩ = some (.slice aL n cL) := fun z => (ap_ext w1 z).cell q0
  repeat (refine Mix.mix_q rfl rfl rfl (fun K hK => ?_); (conv => arg 2; whnf); (first | (go_big_quiet_op; refine hK _ ?_) | (go_simp; refine hK _ ?_)); clear hK K)
  refine (Mix.mix_nil (fun w2 hE2 => ?_))
  (try dsimp only [Exit.then])
  clear hap hapf d0 q0 k1
  go_wp2
  go_ret2
  exact ⟨rfl, hE1.trans ((Ext.refl _).drew'.trans hE2)⟩
/-- The loop's state: the box of the document's buffer. -/
def RB (w : World) (Bx : Nat) (aL : Option Addr) (cL : Nat) (vE0 : Value) (xs : List Int) (es : List (Int × Int)) (W : World) : Prop :=
  ∃ aE cE, W.heap[Bx]? = some (.cells #[.slice aL xs.length cL, .slice aE es.length cE] 82 (0, 0)) ∧ RT W (.slice aL xs.length cL) (.slice aE es.length cE) xs es ∧ (∀ y ∈ (Value.slice aE es.length cE).ownBlock.toList, y ∈ vE0.ownBlock.toList ∨ w.heap.size + 2 ≤ y)
set_option maxRecDepth 100000 in
set_option maxHeartbeats 2000000 in
theorem refLoad_any (vL vE : Value) (xs : List Int) (es : List (Int × Int)) (a fr to : Int) (w : World) (h : RT w vL vE xs es) (hx : xs.length ≤ 100) (hl : es.length ≤ 500) :
    Calls Try.prog 124 #[.agg #[vL, vE], .int .i64 a, .int .i64 fr, .int .i64 to] w fun e w' =>
      ∃ vE', e = .returned (.tuple #[.agg #[vL, vE'], .int .i64 (loadV xs a (clipI fr 0 xs.length) (clipI to 0 xs.length))]) ∧ RT w' vL vE' xs (es ++ winE (clipI fr 0 xs.length) (clipI to 0 xs.length)) ∧ NewOr w vE vE' ∧ Ext w w' := by
  obtain ⟨aL, cL, rfl⟩ := own_form h.L
  obtain ⟨aE, cE, rfl⟩ := own_formS h.E
  have mW := fun W => refWin_any aL aE xs.length cL es.length cE fr to (by omega) W
  have hlo := clipI_bd fr xs.length
  have hhi := clipI_bd to xs.length
  generalize clipI fr 0 xs.length = lo at *
  generalize clipI to 0 xs.length = hi at *
  obtain ⟨hlo0, hlo1⟩ := hlo
  obtain ⟨hhi0, hhi1⟩ := hhi
  have em : (if hi - lo < 0 then 0 else hi - lo) = ((winN lo hi : Nat) : Int) := by unfold winN; split <;> omega
  have hN : winN lo hi ≤ xs.length := by unfold winN; omega
  have hE1 : Ext w ((w.alloc (.cells #[.slice aL xs.length cL, .slice aE es.length cE] 82)).alloc (.cells #[.slice none 0 0, .slice none 0 0] 82)) := ((Ext.refl w).alloc' _).alloc' _
  have k1 : ((w.alloc (.cells #[.slice aL xs.length cL, .slice aE es.length cE] 82)).alloc (.cells #[.slice none 0 0, .slice none 0 0] 82)).heap[w.heap.size]? = some (.cells #[.slice aL xs.length cL, .slice aE es.length cE] 82 (0, 0)) :=
    ((Ext.refl _).alloc' _).blk (World.alloc_heap_new w _)
  have k2 : ((w.alloc (.cells #[.slice aL xs.length cL, .slice aE es.length cE] 82)).alloc (.cells #[.slice none 0 0, .slice none 0 0] 82)).heap[w.heap.size + 1]? = some (.cells #[.slice none 0 0, .slice none 0 0] 82 (0, 0)) := by
    have := World.alloc_heap_new (w.alloc (.cells #[.slice aL xs.length cL, .slice aE es.length cE] 82)) (.cells #[.slice none 0 0, .slice none 0 0] 82)
    rwa [World.size_alloc] at this
  have hE1' := Lib.hid hE1
  have em' := Lib.hid em
  clear hE1 em
  go_enter Try.func124, Try.ntmps124
  go_wp2_with fail
  refine (mW _).mono ?_
  clear mW
  rintro e w2 ⟨rfl, hE2⟩
  have b1 := hE2.blk k1
  have b2 := hE2.blk k2
  have hE02 := hE1'.out.trans hE2
  clear k1 k2 hE2 hE1'
  have p0 : w2.cell? ⟨w.heap.size, 0, none⟩ = some (.slice aL xs.length cL) := by rw [blk_cell b1]; rfl
  have p1 : w2.cell? ⟨w.heap.size, 1, none⟩ = some (.slice aE es.length cE) := by rw [blk_cell b1]; rfl
  have em := em'.out
  go_wp2_with fail
  refine (refAdd_any (.slice aE es.length cE) es 2 ((winN lo hi : Nat) : Int) w2 (h.ext hE02).E h.nE (by omega)).mono ?_
  rintro e w3 ⟨v3, rfl, hr3, hE3⟩
  obtain ⟨a3, c3, rfl⟩ := own_formS hr3
  have z4 := blk_lt b2
  have b1 := hE3.blk b1
  have b2 := hE3.blk b2
  have hE03 := hE02.trans hE3
  clear p0 p1 em
  have p0 : w3.cell? ⟨w.heap.size, 0, none⟩ = some (.slice aL xs.length cL) := by rw [blk_cell b1]; rfl
  have p1 : w3.cell? ⟨w.heap.size, 1, none⟩ = some (.slice aE es.length cE) := by rw [blk_cell b1]; rfl
  have p2 : w3.frozen? ⟨w.heap.size, 1, none⟩ = false := blk_free b1 1
  have z2 := hE02.size
  have z3 := blk_lt b2
  go_wp2
  have hJ0 : RB w w.heap.size aL cL (.slice aE es.length cE) xs (es ++ (2, ((winN lo hi : Nat) : Int)) :: logW ((winL lo hi fun k => getV xs (lo + (k : Int))).take 0)) (w3.setCell ⟨w.heap.size, 1, none⟩ (.slice a3 (es.length + 1) c3)) ∧ Ext w (w3.setCell ⟨w.heap.size, 1, none⟩ (.slice a3 (es.length + 1) c3)) := by
    have T3 : Turn [w.heap.size] w3 (w3.setCell ⟨w.heap.size, 1, none⟩ (.slice a3 (es.length + 1) c3)) := turn_set (by simp)
    have hE0F : Ext w (w3.setCell ⟨w.heap.size, 1, none⟩ (.slice a3 (es.length + 1) c3)) := hE03.trans' T3 (fun y hy => by simp at hy; omega)
    have hrF := ownsRow_turn hr3 T3 (fun y e => by
      have := (hr3.lt y e).1
      simp
      omega)
    refine ⟨⟨a3, c3, ?_, ⟨ownsRow_turn h.L (F := []) (Turn.of_ext hE0F) (by simp), ?_, fun hc => ?_⟩, fun y hy => .inr ?_⟩, hE0F⟩
    · simp only [List.take_zero, logW, List.map_nil, List.length_append, List.length_singleton]
      exact blk_set b1
    · simp only [List.take_zero, logW, List.map_nil]
      exact own_base hrF
    · simp at hc
    · simp only [List.take_zero, logW, List.map_nil] at hy
      have := (hr3.lt y (Option.mem_toList.1 hy)).1
      omega
  have hres : (w3.setCell ⟨w.heap.size, 1, none⟩ (.slice a3 (es.length + 1) c3)).heap[w.heap.size + 1]? = some (.cells #[.slice none 0 0, .slice none 0 0] 82 (0, 0)) := (Below.heap_setCell _ _ _ _ (by simp)).trans b2
  generalize w3.setCell ⟨w.heap.size, 1, none⟩ (.slice a3 (es.length + 1) c3) = w4 at *
  obtain ⟨hJ0, hE04⟩ := hJ0
  clear p0 p1 p2 b1 b2 hr3 hE3 hE03 hE02
  go_loopw [12, 13] (fun s t wr => ∃ k : Nat, k ≤ winN lo hi ∧ t = .int .i64 (lo + (k : Int)) ∧ s = .int .i64 (loadF a ((winL lo hi fun k => getV xs (lo + (k : Int))).take k)) ∧
    RB w w.heap.size aL cL (.slice aE es.length cE) xs (es ++ (2, ((winN lo hi : Nat) : Int)) :: logW ((winL lo hi fun k => getV xs (lo + (k : Int))).take k)) wr ∧ wr.heap[w.heap.size + 1]? = some (.cells #[.slice none 0 0, .slice none 0 0] 82 (0, 0)) ∧ Ext w wr) (fun _ t _ => hi.toNat - (intOf t).toNat)
  case atStart => exact ⟨0, Nat.zero_le _, by simp, rfl, hJ0, hres, hE04⟩
  case round =>
    clear hJ0 hres hE04
    obtain ⟨k, hk, rfl, rfl, ⟨aE', cE', bb, hRT, hNO⟩, hres, hEr⟩ := hrel
    have hlogl : (es ++ (2, ((winN lo hi : Nat) : Int)) :: logW ((winL lo hi fun k => getV xs (lo + (k : Int))).take k)).length ≤ 700 := by
      rw [List.length_append, List.length_cons, logW_len, List.length_take]
      omega
    have zr := blk_lt hres
    have zw := hEr.size
    have q0 : wr.cell? ⟨w.heap.size, 0, none⟩ = some (.slice aL xs.length cL) := by rw [blk_cell bb]; rfl
    have q1 : wr.cell? ⟨w.heap.size, 1, none⟩ = some (.slice aE' (es ++ (2, ((winN lo hi : Nat) : Int)) :: logW ((winL lo hi fun k => getV xs (lo + (k : Int))).take k)).length cE') := by rw [blk_cell bb]; rfl
    by_cases hlt : k < winN lo hi
    · have hlt2 : lo + (k : Int) < hi := by unfold winN at hlt; omega
      have hp : isPlace (lo + (k : Int)) xs.length := ⟨by omega, by omega⟩
      have hsn := winL_step lo hi (fun k => getV xs (lo + (k : Int))) hlt
      have hlog : (es ++ (2, ((winN lo hi : Nat) : Int)) :: logW ((winL lo hi fun k => getV xs (lo + (k : Int))).take k)) ++ seenV xs.length (lo + (k : Int)) = es ++ (2, ((winN lo hi : Nat) : Int)) :: logW ((winL lo hi fun k => getV xs (lo + (k : Int))).take (k + 1)) := by
        rw [seenV_place hp, ← hsn]
        simp [logW]
      have hsum : loadF a ((winL lo hi fun k => getV xs (lo + (k : Int))).take (k + 1)) = sel (decide (a = lo + (k : Int))) (getV xs (lo + (k : Int))) (loadF a ((winL lo hi fun k => getV xs (lo + (k : Int))).take k)) := by
        rw [← hsn, loadF_snoc]
      have hmG := refGet_any (.slice aL xs.length cL) (.slice aE' (es ++ (2, ((winN lo hi : Nat) : Int)) :: logW ((winL lo hi fun k => getV xs (lo + (k : Int))).take k)).length cE') xs _ (lo + (k : Int)) wr hRT (by omega) (by omega)
      obtain ⟨es2, he2⟩ : ∃ es2, es2 = es ++ (2, ((winN lo hi : Nat) : Int)) :: logW ((winL lo hi fun k => getV xs (lo + (k : Int))).take (k + 1)) := ⟨_, rfl⟩
      obtain ⟨o2, ho2⟩ : ∃ o2, o2 = loadF a ((winL lo hi fun k => getV xs (lo + (k : Int))).take (k + 1)) := ⟨_, rfl⟩
      rw [← he2] at hlog
      rw [← ho2] at hsum
      have he2' := Lib.hid he2
      have ho2' := Lib.hid ho2
      clear he2 ho2
      generalize es ++ (2, ((winN lo hi : Nat) : Int)) :: logW ((winL lo hi fun k => getV xs (lo + (k : Int))).take k) = es1 at *
      generalize loadF a ((winL lo hi fun k => getV xs (lo + (k : Int))).take k) = o1 at *
      have hsum' := Lib.hid hsum
      have hlog' := Lib.hid hlog
      clear hsn hsum hlog
      go_wp2_with fail
      refine hmG.mono ?_
      clear hmG
      rintro e w5 ⟨vE5, rfl, hR5, hN5, hE5⟩
      rw [hlog'.out] at hR5
      obtain ⟨a5, c5, rfl⟩ := own_formS hR5.E
      have bb5 := hE5.blk bb
      have br5 := hE5.blk hres
      have hE05 := hEr.trans hE5
      have hzs := hE05.size
      have s0 : w5.cell? ⟨w.heap.size, 0, none⟩ = some (.slice aL xs.length cL) := by rw [blk_cell bb5]; rfl
      have s1 : w5.cell? ⟨w.heap.size, 1, none⟩ = some (.slice aE' es1.length cE') := by rw [blk_cell bb5]; rfl
      have f0 : w5.frozen? ⟨w.heap.size, 0, none⟩ = false := blk_free bb5 0
      have f1 : w5.frozen? ⟨w.heap.size, 1, none⟩ = false := blk_free bb5 1
      have z5 := blk_lt br5
      have z5' : w.heap.size < w5.heap.size := by omega
      have zr5 := hE5.size
      have hfin : ∃ wF, wF = ((w5.setCell ⟨w.heap.size, 0, none⟩ (.slice aL xs.length cL)).setCell ⟨w.heap.size, 1, none⟩ (.slice a5 es2.length c5)).alloc (.cells #[.slice aL xs.length cL, .slice a5 es2.length c5] 82) ∧
          RB w w.heap.size aL cL (.slice aE es.length cE) xs es2 wF ∧ wF.heap[w.heap.size + 1]? = some (.cells #[.slice none 0 0, .slice none 0 0] 82 (0, 0)) ∧ Ext w wF := by
        have TF : Turn [w.heap.size] w5 ((w5.setCell ⟨w.heap.size, 0, none⟩ (.slice aL xs.length cL)).setCell ⟨w.heap.size, 1, none⟩ (.slice a5 es2.length c5)) :=
          (turn_set (by simp)).seq (turn_set (by simp))
        have EF := (Ext.refl ((w5.setCell ⟨w.heap.size, 0, none⟩ (.slice aL xs.length cL)).setCell ⟨w.heap.size, 1, none⟩ (.slice a5 es2.length c5))).alloc' (.cells #[.slice aL xs.length cL, .slice a5 es2.length c5] 82)
        have hE0F := hE05.trans' TF (fun y hy => by simp at hy; omega)
        have hnew : ∀ y ∈ (Value.slice a5 es2.length c5).ownBlock.toList, y ∈ (Value.slice aE es.length cE).ownBlock.toList ∨ w.heap.size + 2 ≤ y := fun y hy => (hN5 y hy).elim (fun m => hNO y m) (fun m => .inr (by omega))
        refine ⟨_, rfl, ⟨a5, c5, ?_, (hR5.turn TF (fun y hy hm => ?_) (fun y hy hm => ?_)).ext EF, hnew⟩, ?_, hE0F.trans EF⟩
        · exact EF.blk (blk_set (blk_set bb5))
        · have := (h.L.lt y (Option.mem_toList.1 hy)).2
          simp only [List.mem_singleton] at hm
          omega
        · simp only [List.mem_singleton] at hm
          subst hm
          rcases hnew _ hy with h2 | h2
          · have := (h.E.lt _ (Option.mem_toList.1 h2)).2
            omega
          · omega
        · exact EF.blk ((TF.block _ z5 (by simp)).trans br5)
      clear bb bb5 br5 hE5 hEr q0 q1 zw
      obtain ⟨wF, hwF, hB, hresF, hE0F⟩ := hfin
      have hwF' := Lib.hid hwF
      clear hwF hres hRT hR5 hE05
      by_cases hka : lo + (k : Int) = a
      · have hd3 : (lo + (k : Int) == a) = true := beq_iff_eq.2 hka
        have e : o2 = getV xs (lo + (k : Int)) := by rw [hsum'.out, show decide (a = lo + (k : Int)) = true by simp [hka]]; rfl
        have e' := Lib.hid e
        clear e hka
        go_wp2
        rw [← hwF'.out]
        go_roundw
        case rel => exact ⟨k + 1, by omega, by congr 1; omega, by rw [← ho2'.out, e'.out], by rw [← he2'.out]; exact hB, hresF, hE0F⟩
        case measure => simp [intOf]; omega
      · have hd3 : (lo + (k : Int) == a) = false := beq_eq_false_iff_ne.2 hka
        have e : o2 = o1 := by rw [hsum'.out, show decide (a = lo + (k : Int)) = false by simp; omega]; rfl
        have e' := Lib.hid e
        clear e hka
        go_wp2
        rw [← hwF'.out]
        go_roundw
        case rel => exact ⟨k + 1, by omega, by congr 1; omega, by rw [← ho2'.out, e'.out], by rw [← he2'.out]; exact hB, hresF, hE0F⟩
        case measure => simp [intOf]; omega
    · have hkn : k = winN lo hi := by omega
      have hge : ¬ (lo + (k : Int) < hi) := by unfold winN at hkn; omega
      have hTK : (winL lo hi fun k => getV xs (lo + (k : Int))).take k = winL lo hi fun k => getV xs (lo + (k : Int)) := by rw [hkn, ← winL_len lo hi fun k => getV xs (lo + (k : Int)), List.take_length]
      rw [hTK] at hRT bb q1 hNO ⊢
      have elog : es ++ winE lo hi = es ++ (2, ((winN lo hi : Nat) : Int)) :: logW (winL lo hi fun k => getV xs (lo + (k : Int))) := by rw [logW_win]; rfl
      have eld : loadV xs a lo hi = loadF a (winL lo hi fun k => getV xs (lo + (k : Int))) := rfl
      rw [← elog] at hRT bb q1 hNO
      rw [← eld]
      obtain ⟨es2, he2⟩ : ∃ es2, es2 = es ++ winE lo hi := ⟨_, rfl⟩
      rw [← he2] at hRT bb q1 hNO
      have he2' := Lib.hid he2
      clear he2
      have s0 : wr.cell? ⟨w.heap.size + 1, 0, none⟩ = some (.slice none 0 0) := by rw [blk_cell hres]; rfl
      have s1 : wr.cell? ⟨w.heap.size + 1, 1, none⟩ = some (.slice none 0 0) := by rw [blk_cell hres]; rfl
      have f0 : wr.frozen? ⟨w.heap.size + 1, 0, none⟩ = false := blk_free hres 0
      have f1 : wr.frozen? ⟨w.heap.size + 1, 1, none⟩ = false := blk_free hres 1
      clear elog eld hTK hkn hlogl
      go_wp2
      refine bodyPost_ret (v := _) (by simp [results, Try.results124, go_sem, q0, q1, s0, s1]; rfl) rfl ?_
      have TF : Turn [w.heap.size + 1] wr ((wr.setCell ⟨w.heap.size + 1, 0, none⟩ (.slice aL xs.length cL)).setCell ⟨w.heap.size + 1, 1, none⟩ (.slice aE' es2.length cE')) := (turn_set (by simp)).seq (turn_set (by simp))
      refine ⟨_, rfl, he2'.out ▸ hRT.turn TF (fun y hy hm => ?_) (fun y hy hm => ?_), fun y hy => (hNO y hy).imp id (fun h => by omega), hEr.trans' TF (fun y hy => by simp at hy; omega)⟩
      · have := (h.L.lt y (Option.mem_toList.1 hy)).2
        simp only [List.mem_singleton] at hm
        omega
      · simp only [List.mem_singleton] at hm
        subst hm
        rcases hNO _ hy with h2 | h2
        · have := (h.E.lt _ (Option.mem_toList.1 h2)).2
          omega
        · omega
end Go.Proofs.Ytoipadeeochbnaa
