import Derived.Test.YtoipadeeochbnaaRef4
namespace Go.Proofs.Ytoipadeeochbnaa
open Go.RowKit Mix
set_option linter.unusedVariables false
attribute [local go_sem] Mix.calm Oper.quietUpon
/-- The same where the words change too. -/
def RS (w : World) (Bx : Nat) (vL0 vE0 : Value) (n : Nat) (xs : List Int) (es : List (Int × Int)) (W : World) : Prop :=
  ∃ aL cL aE cE, xs.length = n ∧ W.heap[Bx]? = some (.cells #[.slice aL n cL, .slice aE es.length cE] 82 (0, 0)) ∧ RT W (.slice aL n cL) (.slice aE es.length cE) xs es ∧
    (∀ y ∈ (Value.slice aL n cL).ownBlock.toList, y ∈ vL0.ownBlock.toList ∨ w.heap.size + 2 ≤ y) ∧ (∀ y ∈ (Value.slice aE es.length cE).ownBlock.toList, y ∈ vE0.ownBlock.toList ∨ w.heap.size + 2 ≤ y)
set_option maxRecDepth 100000 in
set_option maxHeartbeats 1000000 in
theorem refStore_any (vL vE : Value) (xs : List Int) (es : List (Int × Int)) (a s fr to : Int) (hs : In64 s) (w : World) (h : RT w vL vE xs es) (hx : xs.length ≤ 100) (hl : es.length ≤ 500) :
    Calls Try.prog 126 #[.agg #[vL, vE], .int .i64 a, .int .i64 s, .int .i64 fr, .int .i64 to] w fun e w' =>
      ∃ vL' vE', e = .returned (.agg #[vL', vE']) ∧ RT w' vL' vE' (storeV xs a s (clipI fr 0 xs.length) (clipI to 0 xs.length)) (es ++ winB (clipI fr 0 xs.length) (clipI to 0 xs.length)) ∧ NewOr w vL vL' ∧ NewOr w vE vE' ∧ Ext w w' := by
  obtain ⟨aL, cL, rfl⟩ := own_form h.L
  obtain ⟨aE, cE, rfl⟩ := own_formS h.E
  have mW := fun W => refWin_any aL aE xs.length cL es.length cE fr to (by omega) W
  have hlo := clipI_bd fr xs.length
  have hhi := clipI_bd to xs.length
  generalize clipI fr 0 xs.length = lo at *
  generalize clipI to 0 xs.length = hi at *
  obtain ⟨hlo0, hlo1⟩ := hlo
  obtain ⟨hhi0, hhi1⟩ := hhi
  have em : (if hi - lo < 0 then 0 else hi - lo) = ((winN lo hi : Nat) : Int) := by unfold winN; split <;> omega
  have hN : winN lo hi ≤ xs.length := by unfold winN; omega
  have hE1 : Ext w ((w.alloc (.cells #[.slice aL xs.length cL, .slice aE es.length cE] 82)).alloc (.cells #[.slice none 0 0, .slice none 0 0] 82)) := ((Ext.refl w).alloc' _).alloc' _
  have k1 : ((w.alloc (.cells #[.slice aL xs.length cL, .slice aE es.length cE] 82)).alloc (.cells #[.slice none 0 0, .slice none 0 0] 82)).heap[w.heap.size]? = some (.cells #[.slice aL xs.length cL, .slice aE es.length cE] 82 (0, 0)) :=
    ((Ext.refl _).alloc' _).blk (World.alloc_heap_new w _)
  have k2 : ((w.alloc (.cells #[.slice aL xs.length cL, .slice aE es.length cE] 82)).alloc (.cells #[.slice none 0 0, .slice none 0 0] 82)).heap[w.heap.size + 1]? = some (.cells #[.slice none 0 0, .slice none 0 0] 82 (0, 0)) := by
    have := World.alloc_heap_new (w.alloc (.cells #[.slice aL xs.length cL, .slice aE es.length cE] 82)) (.cells #[.slice none 0 0, .slice none 0 0] 82)
    rwa [World.size_alloc] at this
  have hE1' := Lib.hid hE1
  have em' := Lib.hid em
  clear hE1 em
  go_enter Try.func126, Try.ntmps126
  go_wp2_with fail
  refine (mW _).mono ?_
  clear mW
  rintro e w2 ⟨rfl, hE2⟩
  have b1 := hE2.blk k1
  have b2 := hE2.blk k2
  have hE02 := hE1'.out.trans hE2
  clear k1 k2 hE2 hE1'
  have p0 : w2.cell? ⟨w.heap.size, 0, none⟩ = some (.slice aL xs.length cL) := by rw [blk_cell b1]; rfl
  have p1 : w2.cell? ⟨w.heap.size, 1, none⟩ = some (.slice aE es.length cE) := by rw [blk_cell b1]; rfl
  have em := em'.out
  go_wp2_with fail
  refine (refAdd_any (.slice aE es.length cE) es 2 ((winN lo hi : Nat) : Int) w2 (h.ext hE02).E h.nE (by omega)).mono ?_
  rintro e w3 ⟨v3, rfl, hr3, hE3⟩
  obtain ⟨a3, c3, rfl⟩ := own_formS hr3
  have z4 := blk_lt b2
  have b1 := hE3.blk b1
  have b2 := hE3.blk b2
  have hE03 := hE02.trans hE3
  clear p0 p1 em
  have p0 : w3.cell? ⟨w.heap.size, 0, none⟩ = some (.slice aL xs.length cL) := by rw [blk_cell b1]; rfl
  have p1 : w3.cell? ⟨w.heap.size, 1, none⟩ = some (.slice aE es.length cE) := by rw [blk_cell b1]; rfl
  have p2 : w3.frozen? ⟨w.heap.size, 1, none⟩ = false := blk_free b1 1
  have z2 := hE02.size
  have z3 := blk_lt b2
  go_wp2
  have hJ0 : RS w w.heap.size (.slice aL xs.length cL) (.slice aE es.length cE) xs.length (layF (storeW a s) xs ((winL lo hi fun k => getV xs (lo + (k : Int))).take 0)) (es ++ (2, ((winN lo hi : Nat) : Int)) :: logB ((winL lo hi fun k => getV xs (lo + (k : Int))).take 0)) (w3.setCell ⟨w.heap.size, 1, none⟩ (.slice a3 (es.length + 1) c3)) ∧ Ext w (w3.setCell ⟨w.heap.size, 1, none⟩ (.slice a3 (es.length + 1) c3)) := by
    have T3 : Turn [w.heap.size] w3 (w3.setCell ⟨w.heap.size, 1, none⟩ (.slice a3 (es.length + 1) c3)) := turn_set (by simp)
    have hE0F : Ext w (w3.setCell ⟨w.heap.size, 1, none⟩ (.slice a3 (es.length + 1) c3)) := hE03.trans' T3 (fun y hy => by simp at hy; omega)
    have hrF := ownsRow_turn hr3 T3 (fun y e => by
      have := (hr3.lt y e).1
      simp
      omega)
    refine ⟨⟨aL, cL, a3, c3, rfl, ?_, ⟨ownsRow_turn h.L (F := []) (Turn.of_ext hE0F) (by simp), ?_, fun hc => ?_⟩, fun y hy => .inl hy, fun y hy => .inr ?_⟩, hE0F⟩
    · simp only [List.take_zero, logB, List.flatMap_nil, List.length_append, List.length_singleton]
      exact blk_set b1
    · simp only [List.take_zero, logB, List.flatMap_nil]
      exact own_base hrF
    · simp at hc
    · simp only [List.take_zero, logB, List.flatMap_nil] at hy
      have := (hr3.lt y (Option.mem_toList.1 hy)).1
      omega
  have hres : (w3.setCell ⟨w.heap.size, 1, none⟩ (.slice a3 (es.length + 1) c3)).heap[w.heap.size + 1]? = some (.cells #[.slice none 0 0, .slice none 0 0] 82 (0, 0)) := (Below.heap_setCell _ _ _ _ (by simp)).trans b2
  generalize w3.setCell ⟨w.heap.size, 1, none⟩ (.slice a3 (es.length + 1) c3) = w4 at *
  obtain ⟨hJ0, hE04⟩ := hJ0
  clear p0 p1 p2 b1 b2 hr3 hE3 hE03 hE02
  go_loopw [13] (fun t wr => ∃ k : Nat, k ≤ winN lo hi ∧ t = .int .i64 (lo + (k : Int)) ∧
    RS w w.heap.size (.slice aL xs.length cL) (.slice aE es.length cE) xs.length (layF (storeW a s) xs ((winL lo hi fun k => getV xs (lo + (k : Int))).take k)) (es ++ (2, ((winN lo hi : Nat) : Int)) :: logB ((winL lo hi fun k => getV xs (lo + (k : Int))).take k)) wr ∧ wr.heap[w.heap.size + 1]? = some (.cells #[.slice none 0 0, .slice none 0 0] 82 (0, 0)) ∧ Ext w wr) (fun t _ => hi.toNat - (intOf t).toNat)
  case atStart => exact ⟨0, Nat.zero_le _, by simp, hJ0, hres, hE04⟩
  case round =>
    clear hJ0 hres hE04
    obtain ⟨k, hk, rfl, ⟨aM, cM, aE', cE', hMl, bb, hRT, hNL, hNO⟩, hres, hEr⟩ := hrel
    have hlogl : (es ++ (2, ((winN lo hi : Nat) : Int)) :: logB ((winL lo hi fun k => getV xs (lo + (k : Int))).take k)).length ≤ 800 := by
      rw [List.length_append, List.length_cons, logB_len, List.length_take]
      omega
    have zr := blk_lt hres
    have zw := hEr.size
    by_cases hlt : k < winN lo hi
    · have hlt2 : lo + (k : Int) < hi := by unfold winN at hlt; omega
      have hp : isPlace (lo + (k : Int)) xs.length := ⟨by omega, by omega⟩
      have hsn := winL_step lo hi (fun k => getV xs (lo + (k : Int))) hlt
      have hgx := lay_get (storeW a s) xs lo hi k
      have hlog : (es ++ (2, ((winN lo hi : Nat) : Int)) :: logB ((winL lo hi fun k => getV xs (lo + (k : Int))).take k)) ++ [(1, lo + (k : Int))] ++ [(1, lo + (k : Int))] = es ++ (2, ((winN lo hi : Nat) : Int)) :: logB ((winL lo hi fun k => getV xs (lo + (k : Int))).take (k + 1)) := by
        rw [← hsn, logB_snoc]
        simp
      have hsum : layF (storeW a s) xs ((winL lo hi fun k => getV xs (lo + (k : Int))).take (k + 1)) = setV (layF (storeW a s) xs ((winL lo hi fun k => getV xs (lo + (k : Int))).take k)) (lo + (k : Int)) (storeW a s (lo + (k : Int)) (getV xs (lo + (k : Int)))) := by
        rw [← hsn, layF_snoc]
      obtain ⟨es2, he2⟩ : ∃ es2, es2 = es ++ (2, ((winN lo hi : Nat) : Int)) :: logB ((winL lo hi fun k => getV xs (lo + (k : Int))).take (k + 1)) := ⟨_, rfl⟩
      obtain ⟨xs2, ho2⟩ : ∃ xs2, xs2 = layF (storeW a s) xs ((winL lo hi fun k => getV xs (lo + (k : Int))).take (k + 1)) := ⟨_, rfl⟩
      rw [← he2] at hlog
      rw [← ho2] at hsum
      have he2' := Lib.hid he2
      have ho2' := Lib.hid ho2
      clear he2 ho2
      generalize es ++ (2, ((winN lo hi : Nat) : Int)) :: logB ((winL lo hi fun k => getV xs (lo + (k : Int))).take k) = es1 at *
      generalize layF (storeW a s) xs ((winL lo hi fun k => getV xs (lo + (k : Int))).take k) = xs1 at *
      have hmG := refGet_any (.slice aM xs.length cM) (.slice aE' es1.length cE') xs1 es1 (lo + (k : Int)) wr hRT (by omega) (by omega)
      have q0 : wr.cell? ⟨w.heap.size, 0, none⟩ = some (.slice aM xs.length cM) := by rw [blk_cell bb]; rfl
      have q1 : wr.cell? ⟨w.heap.size, 1, none⟩ = some (.slice aE' es1.length cE') := by rw [blk_cell bb]; rfl
      obtain ⟨x, hx0⟩ : ∃ x, x = getV xs (lo + (k : Int)) := ⟨_, rfl⟩
      rw [← hx0] at hgx hsum
      have hgx' := Lib.hid hgx
      have hsum' := Lib.hid hsum
      have hlog' := Lib.hid hlog
      have hMl' := Lib.hid hMl
      have hx0' := Lib.hid hx0
      clear hsn hsum hlog hgx hMl hx0
      go_wp2_with fail
      refine hmG.mono ?_
      clear hmG
      rintro e w5 ⟨vE5, rfl, hR5, hN5, hE5⟩
      rw [hMl'.out, seenV_place hp] at hR5
      rw [hgx'.out]
      obtain ⟨a5, c5, rfl⟩ := own_formS hR5.E
      have hl9 : (es1 ++ [(1, lo + (k : Int))]).length ≤ 1000 := by rw [List.length_append, List.length_singleton]; omega
      have hl9' := Lib.hid hl9
      clear hl9
      generalize hn5 : (es1 ++ [(1, lo + (k : Int))]).length = n5 at hR5 hN5 ⊢
      clear hn5
      have bb5 := hE5.blk bb
      have br5 := hE5.blk hres
      have hE05 := hEr.trans hE5
      have hzs := hE05.size
      have zr5 := hE5.size
      have hEA := (Ext.refl w5).alloc' (.cells #[.slice aM xs.length cM, .slice a5 n5 c5] 82)
      have bbA := hEA.blk bb5
      have brA := hEA.blk br5
      have hRA := hR5.ext hEA
      have hE0A := hE05.trans hEA
      have hzA := hEA.size
      have hSet : ∀ nv : Int, nv = storeW a s (lo + (k : Int)) x → Calls Try.prog 61 #[.agg #[.slice aM xs.length cM, .slice a5 n5 c5], .int .i64 (lo + (k : Int)), .int .i64 nv] (w5.alloc (.cells #[.slice aM xs.length cM, .slice a5 n5 c5] 82))
          fun e w6 => ∃ aN cN a6 c6, e = .returned (.agg #[.slice aN xs.length cN, .slice a6 es2.length c6]) ∧
            w6.heap[w.heap.size]? = some (.cells #[.slice aM xs.length cM, .slice aE' es1.length cE'] 82 (0, 0)) ∧ w.heap.size + 1 < w6.heap.size ∧
            RS w w.heap.size (.slice aL xs.length cL) (.slice aE es.length cE) xs.length xs2 es2 ((w6.setCell ⟨w.heap.size, 0, none⟩ (.slice aN xs.length cN)).setCell ⟨w.heap.size, 1, none⟩ (.slice a6 es2.length c6)) ∧
            ((w6.setCell ⟨w.heap.size, 0, none⟩ (.slice aN xs.length cN)).setCell ⟨w.heap.size, 1, none⟩ (.slice a6 es2.length c6)).heap[w.heap.size + 1]? = some (.cells #[.slice none 0 0, .slice none 0 0] 82 (0, 0)) ∧
            Ext w ((w6.setCell ⟨w.heap.size, 0, none⟩ (.slice aN xs.length cN)).setCell ⟨w.heap.size, 1, none⟩ (.slice a6 es2.length c6)) := by
        rintro nv rfl
        have hl1 : xs1.length ≤ 1000 := by have := hMl'.out; omega
        have mS := refSet_any (.slice aM xs.length cM) (.slice a5 n5 c5) xs1 (es1 ++ [(1, lo + (k : Int))]) (lo + (k : Int)) (storeW a s (lo + (k : Int)) x) (w5.alloc (.cells #[.slice aM xs.length cM, .slice a5 n5 c5] 82))
        have mS2 := mS hRA hl1 hl9'.out
        refine Calls.mono mS2 ?_
        clear mS mS2
        rintro e w6 ⟨vN, vE6, rfl, hR6, hNL6, hN6, hE6⟩
        rw [hMl'.out, seenV_place hp, hlog'.out, ← hsum'.out] at hR6
        have hl2 : xs2.length = xs.length := by rw [hsum'.out, setV_len]; exact hMl'.out
        obtain ⟨aN, cN, rfl⟩ := own_form hR6.L
        obtain ⟨a6, c6, rfl⟩ := own_formS hR6.E
        rw [hl2] at hR6 hNL6
        have TF : Turn [w.heap.size] w6 ((w6.setCell ⟨w.heap.size, 0, none⟩ (.slice aN xs.length cN)).setCell ⟨w.heap.size, 1, none⟩ (.slice a6 es2.length c6)) := (turn_set (by simp)).seq (turn_set (by simp))
        have bb6 := hE6.blk bbA
        have br6 := hE6.blk brA
        have hz6 := hE6.size
        have hE0F := (hE0A.trans hE6).trans' TF (fun y hy => by simp at hy; omega)
        have hnL : ∀ y ∈ (Value.slice aN xs.length cN).ownBlock.toList, y ∈ (Value.slice aL xs.length cL).ownBlock.toList ∨ w.heap.size + 2 ≤ y := fun y hy => (hNL6 y hy).elim (fun m => hNL y m) (fun m => .inr (by omega))
        have hnE : ∀ y ∈ (Value.slice a6 es2.length c6).ownBlock.toList, y ∈ (Value.slice aE es.length cE).ownBlock.toList ∨ w.heap.size + 2 ≤ y := fun y hy => (hN6 y hy).elim (fun m => (hN5 y m).elim (fun m => hNO y m) (fun m => .inr (by omega))) (fun m => .inr (by omega))
        have b7 : ((w6.setCell ⟨w.heap.size, 0, none⟩ (.slice aN xs.length cN)).setCell ⟨w.heap.size, 1, none⟩ (.slice a6 es2.length c6)).heap[w.heap.size]? = some (.cells #[.slice aN xs.length cN, .slice a6 es2.length c6] 82 (0, 0)) := blk_set (blk_set bb6)
        have b8 := (TF.block (w.heap.size + 1) (blk_lt br6) (by simp)).trans br6
        have z6 := blk_lt br6
        have R7 : RT ((w6.setCell ⟨w.heap.size, 0, none⟩ (.slice aN xs.length cN)).setCell ⟨w.heap.size, 1, none⟩ (.slice a6 es2.length c6)) (.slice aN xs.length cN) (.slice a6 es2.length c6) xs2 es2 := by
          refine hR6.turn TF (fun y hy hm => ?_) (fun y hy hm => ?_)
          · simp only [List.mem_singleton] at hm
            subst hm
            rcases hnL _ hy with h2 | h2
            · have := (h.L.lt _ (Option.mem_toList.1 h2)).2
              omega
            · omega
          · simp only [List.mem_singleton] at hm
            subst hm
            rcases hnE _ hy with h2 | h2
            · have := (h.E.lt _ (Option.mem_toList.1 h2)).2
              omega
            · omega
        rw [hl2]
        exact ⟨aN, cN, a6, c6, rfl, bb6, z6, ⟨aN, cN, a6, c6, hl2, b7, R7, hnL, hnE⟩, b8, hE0F⟩
      have s0 : w5.cell? ⟨w.heap.size, 0, none⟩ = some (.slice aM xs.length cM) := by rw [blk_cell bb5]; rfl
      have s1 : w5.cell? ⟨w.heap.size, 1, none⟩ = some (.slice aE' es1.length cE') := by rw [blk_cell bb5]; rfl
      have z5 := blk_lt br5
      clear bb bb5 br5 hE5 hEr q0 q1 zw bbA brA hRA hE0A hRT hR5 hres hE05
      have hSet' := Lib.hid hSet
      clear hSet
      by_cases hka : lo + (k : Int) = a
      · have hd3 : (lo + (k : Int) == a) = true := beq_iff_eq.2 hka
        have e : s = storeW a s (lo + (k : Int)) x := by
          unfold storeW
          rw [show decide (a = lo + (k : Int)) = true by simp [hka]]
          rfl
        have e' := Lib.hid e
        clear e hka
        go_wp2_with fail
        refine (hSet'.out s e'.out).mono ?_
        rintro e w6 ⟨aN, cN, a6, c6, rfl, b6, z6, hF, hresF, hE0F⟩
        have t0 : w6.cell? ⟨w.heap.size, 0, none⟩ = some (.slice aM xs.length cM) := by rw [blk_cell b6]; rfl
        have t1 : w6.cell? ⟨w.heap.size, 1, none⟩ = some (.slice aE' es1.length cE') := by rw [blk_cell b6]; rfl
        have f0 : w6.frozen? ⟨w.heap.size, 0, none⟩ = false := blk_free b6 0
        have f1 : w6.frozen? ⟨w.heap.size, 1, none⟩ = false := blk_free b6 1
        have hFF := Lib.hid (And.intro hF (And.intro hresF hE0F))
        clear hF hresF hE0F b6
        go_wp2
        go_roundw
        case rel => exact ⟨k + 1, by omega, by congr 1; omega, by rw [← ho2'.out, ← he2'.out]; exact hFF.out.1, hFF.out.2.1, hFF.out.2.2⟩
        case measure => simp [intOf]; omega
      · have hd3 : (lo + (k : Int) == a) = false := beq_eq_false_iff_ne.2 hka
        have e : x = storeW a s (lo + (k : Int)) x := by
          unfold storeW
          rw [show decide (a = lo + (k : Int)) = false by simp; omega]
          rfl
        have e' := Lib.hid e
        clear e hka
        go_wp2_with fail
        refine (hSet'.out x e'.out).mono ?_
        rintro e w6 ⟨aN, cN, a6, c6, rfl, b6, z6, hF, hresF, hE0F⟩
        have t0 : w6.cell? ⟨w.heap.size, 0, none⟩ = some (.slice aM xs.length cM) := by rw [blk_cell b6]; rfl
        have t1 : w6.cell? ⟨w.heap.size, 1, none⟩ = some (.slice aE' es1.length cE') := by rw [blk_cell b6]; rfl
        have f0 : w6.frozen? ⟨w.heap.size, 0, none⟩ = false := blk_free b6 0
        have f1 : w6.frozen? ⟨w.heap.size, 1, none⟩ = false := blk_free b6 1
        have hFF := Lib.hid (And.intro hF (And.intro hresF hE0F))
        clear hF hresF hE0F b6
        go_wp2
        go_roundw
        case rel => exact ⟨k + 1, by omega, by congr 1; omega, by rw [← ho2'.out, ← he2'.out]; exact hFF.out.1, hFF.out.2.1, hFF.out.2.2⟩
        case measure => simp [intOf]; omega
    · have hkn : k = winN lo hi := by omega
      have hge : ¬ (lo + (k : Int) < hi) := by unfold winN at hkn; omega
      have hTK : (winL lo hi fun k => getV xs (lo + (k : Int))).take k = winL lo hi fun k => getV xs (lo + (k : Int)) := by rw [hkn, ← winL_len lo hi fun k => getV xs (lo + (k : Int)), List.take_length]
      rw [hTK] at hRT bb hNO hMl hlogl
      have elog : es ++ winB lo hi = es ++ (2, ((winN lo hi : Nat) : Int)) :: logB (winL lo hi fun k => getV xs (lo + (k : Int))) := by rw [logB_win]; rfl
      rw [← elog] at hRT bb hNO
      rw [show layF (storeW a s) xs (winL lo hi fun k => getV xs (lo + (k : Int))) = storeV xs a s lo hi from rfl] at hRT
      obtain ⟨es2, he2⟩ : ∃ es2, es2 = es ++ winB lo hi := ⟨_, rfl⟩
      rw [← he2] at hRT bb hNO
      have he2' := Lib.hid he2
      clear he2
      have q0 : wr.cell? ⟨w.heap.size, 0, none⟩ = some (.slice aM xs.length cM) := by rw [blk_cell bb]; rfl
      have q1 : wr.cell? ⟨w.heap.size, 1, none⟩ = some (.slice aE' es2.length cE') := by rw [blk_cell bb]; rfl
      have s0 : wr.cell? ⟨w.heap.size + 1, 0, none⟩ = some (.slice none 0 0) := by rw [blk_cell hres]; rfl
      have s1 : wr.cell? ⟨w.heap.size + 1, 1, none⟩ = some (.slice none 0 0) := by rw [blk_cell hres]; rfl
      have f0 : wr.frozen? ⟨w.heap.size + 1, 0, none⟩ = false := blk_free hres 0
      have f1 : wr.frozen? ⟨w.heap.size + 1, 1, none⟩ = false := blk_free hres 1
      clear elog hTK hkn hlogl hMl
      go_wp2
      refine bodyPost_ret (v := _) (by simp [results, Try.results126, go_sem, q0, q1, s0, s1]; rfl) rfl ?_
      have TF : Turn [w.heap.size + 1] wr ((wr.setCell ⟨w.heap.size + 1, 0, none⟩ (.slice aM xs.length cM)).setCell ⟨w.heap.size + 1, 1, none⟩ (.slice aE' es2.length cE')) := (turn_set (by simp)).seq (turn_set (by simp))
      refine ⟨_, _, rfl, he2'.out ▸ hRT.turn TF (fun y hy hm => ?_) (fun y hy hm => ?_), fun y hy => (hNL y hy).imp id (fun h => by omega), fun y hy => (hNO y hy).imp id (fun h => by omega), hEr.trans' TF (fun y hy => by simp at hy; omega)⟩
      · simp only [List.mem_singleton] at hm
        subst hm
        rcases hNL _ hy with h2 | h2
        · have := (h.L.lt _ (Option.mem_toList.1 h2)).2
          omega
        · omega
      · simp only [List.mem_singleton] at hm
        subst hm
        rcases hNO _ hy with h2 | h2
        · have := (h.E.lt _ (Option.mem_toList.1 h2)).2
          omega
        · omega
end Go.Proofs.Ytoipadeeochbnaa
