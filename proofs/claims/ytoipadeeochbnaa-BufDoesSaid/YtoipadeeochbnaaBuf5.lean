import Derived.Test.YtoipadeeochbnaaBuf4
import Derived.Test.YtoipadeeochbnaaLawOpens
namespace Go.Proofs.Ytoipadeeochbnaa
open Go.RowKit Mix
set_option linter.unusedVariables false
attribute [local go_sem] Mix.calm Oper.quietUpon
theorem Try.infoInt : (Try.prog.info? 3).map (fun i => (i.zero, i.size, i.bytes)) = some (some (.int .i64 0), 1, 8) := by kernel_rfl
theorem Mix.Ext.trans' {a b c : World} (h : Ext a b) {F : List Nat} (k : Turn F b c) (hF : ∀ x ∈ F, a.heap.size ≤ x) : Ext a c := Below.trans h (k.below (B := a.heap.size) hF h.size)
theorem own_base {w : World} {base : Nat} {e : TypeId} {size : Nat} {v : Value} {n : Nat} {xs : List Value} (h : w.ownsRow base e size v n xs) : w.ownsRow 0 e size v n xs :=
  ⟨h.1, h.2.imp id (fun ⟨g, cap, cur, e, _, r⟩ => ⟨g, cap, cur, e, Nat.zero_le _, r⟩)⟩
theorem BufAt.seen {w w' : World} {b : Nat} {p : Option Nat} {xs : List Int} {es es2 : List (Int × Int)} {v : Value} {Fr Fr' : List Nat} (h : BufAt w b p xs es v Fr) (hR' : Rc w' p es2 Fr') (hT : Turn Fr w w') (hF : ∀ x ∈ Fr', x ∈ Fr ∨ w.heap.size ≤ x) : BufAt w' b p xs es2 v Fr' := by
  have hap := h.apart
  refine ⟨?_, ?_, h.nil, hR', ?_, ?_⟩
  · exact (hT.block b (blk_lt h.cell) (fun hm => hap.1 (by simp [hm]))).trans h.cell
  · exact ownsRow_turn h.row hT (fun x e => hap.2 x (by simp [e]))
  · intro hm
    rcases List.mem_append.1 hm with hm | hm
    · exact hap.1 (by simp [hm])
    · rcases hF b hm with h1 | h1
      · exact hap.1 (by simp [h1])
      · have := blk_lt h.cell; omega
  · intro x hx hm
    rcases hF x hm with h1 | h1
    · exact hap.2 x hx h1
    · have := (h.row.lt x (by simpa using hx)).2; omega
/-- What comes back is a new list of these numbers; all has been seen. -/
def OOut (b : Nat) (p : Option Nat) (xs : List Int) (es : List (Int × Int)) (F : List Nat) (w : World) (e : Ending) (w' : World) : Prop :=
  ∃ v F', e = .returned v ∧ w'.ownsRow w.heap.size 3 1 v xs.length (xs.map (Value.int .i64)) ∧ (xs = [] → v = .slice none 0 0) ∧ Bf w' b p xs (es ++ opens xs.length) F' ∧ Turn F w w' ∧ (∀ x ∈ F', x ∈ F ∨ w.heap.size ≤ x)
theorem OpenB_nil (w : World) : Calls Try.prog 58 #[.pointer none] w fun e w' => e = .returned (.slice none 0 0) ∧ Ext w w' := by
  go_enter Try.func58, Try.ntmps58
  go_wp2_with fail
  refine (Words_nil w).mono ?_
  rintro e w1 ⟨rfl, rfl⟩
  go_wp2
  go_loopw [4, 10] (fun s t wr => s = .slice none 0 0 ∧ t = .int .i64 0 ∧ Ext w wr) (fun _ t _ => 0 - (intOf t).toNat)
  case atStart => exact ⟨rfl, rfl, Ext.refl _⟩
  case round =>
    obtain ⟨rfl, rfl, hEr⟩ := hrel
    go_wp2
    go_ret
    exact ⟨rfl, hEr⟩
set_option maxRecDepth 100000 in
set_option maxHeartbeats 1000000 in
theorem OpenB_bf (b : Nat) (p : Option Nat) (xs : List Int) (es : List (Int × Int)) (F : List Nat) (w : World) (h : Bf w b p xs es F) (hx : xs.length ≤ 1048576) (hl : p = none ∨ es.length + xs.length ≤ 316) :
    Calls Try.prog 58 #[.pointer (some ⟨b, 0, none⟩)] w (OOut b p xs es F w) := by
  have hFlt := h.lt
  obtain ⟨vb, Fr0, hB0, hF0⟩ := h
  have hFb : ∀ x ∈ bfoot b vb Fr0, x < w.heap.size := hF0 ▸ hFlt
  go_enter Try.func58, Try.ntmps58
  go_wp2_with fail
  refine (Words_bf b p xs es vb Fr0 w hB0 hx).mono ?_
  rintro e w1 ⟨v1, rfl, hrow1, hnil1, hE1⟩
  have hrd : ∃ a c, v1 = .slice a xs.length c := own_form hrow1
  obtain ⟨a1, c1, rfl⟩ := hrd
  go_wp2
  go_loopw [4, 10] (fun s t wr => ∃ (k : Nat) (Fr : List Nat), k ≤ xs.length ∧ t = .int .i64 k ∧ wr.ownsRow w.heap.size 3 1 s k ((xs.take k).map (Value.int .i64)) ∧ (k = 0 → s = .slice none 0 0) ∧
      BufAt wr b p xs (es ++ opens k) vb Fr ∧ Turn Fr0 w wr ∧ (∀ x ∈ Fr, x ∈ Fr0 ∨ w.heap.size ≤ x) ∧ (∀ x ∈ s.ownBlock.toList, x ∉ Fr) ∧
      wr.ownsRow w.heap.size 25 1 (.slice a1 xs.length c1) xs.length (xs.map (Value.int .i64)) ∧ (∀ x ∈ (Value.slice a1 xs.length c1).ownBlock.toList, x ∉ Fr ∧ x ∉ s.ownBlock.toList)) (fun _ t _ => xs.length - (intOf t).toNat)
  case atStart =>
    refine ⟨0, Fr0, Nat.zero_le _, rfl, World.ownsRow_nil _ _ _ _, fun _ => rfl, ?_, Turn.of_ext hE1, fun x hx => .inl hx, by simp [Value.ownBlock], hrow1, ?_⟩
    · simpa [opens] using hB0.turn (Turn.of_ext hE1) (G := []) (by simp)
    · intro x hx
      refine ⟨fun hm => ?_, by simp [Value.ownBlock]⟩
      have h1 := (hrow1.lt x (by simpa using hx)).1
      have h2 := hFb x (by simp [bfoot, hm])
      omega
  case round =>
    obtain ⟨k, Fr, hk, rfl, hS, hS0, hB, hT, hF, hd, hC, hdc⟩ := hrel
    by_cases hlt2 : k < xs.length
    · obtain ⟨x, hxk⟩ : ∃ x, xs[k]? = some x := ⟨_, List.getElem?_eq_getElem hlt2⟩
      obtain ⟨g1, c1', e1⟩ := ownsRow_form hC (by omega)
      simp only [Value.slice.injEq, true_and] at e1
      obtain ⟨rfl, rfl⟩ := e1
      have cx : wr.cell? ⟨g1, k, none⟩ = some (.int .i64 x) := by
        rw [hC.cellAt k (by omega)]
        simp [hxk]
      obtain ⟨aS, cS, rfl⟩ := own_form hS
      have hlO : p = none ∨ (es ++ opens k).length < 316 := hl.imp id (fun h => by rw [List.length_append, opens_len]; omega)
      go_wp2
      have hEW : Ext wr (wr.alloc (.cells #[.int .i64 x] 25)) := (Ext.refl wr).alloc' _
      have hbx : Boxed (wr.alloc (.cells #[.int .i64 x] 25)) wr.heap.size 25 (.int .i64 x) := Boxed.new wr _ _
      generalize wr.alloc (.cells #[.int .i64 x] 25) = W at *
      have hBW := hB.turn (Turn.of_ext hEW) (G := []) (by simp)
      have hSW := ownsRow_turn (F := []) hS (Turn.of_ext hEW) (by simp)
      have hCW := ownsRow_turn (F := []) hC (Turn.of_ext hEW) (by simp)
      have hTW := hT.seq (Turn.of_ext hEW)
      have hFr := hB.rc.lt
      have hdb : b ∉ Fr := fun hm => hB.apart.1 (by simp [hm])
      have hdw : wr.heap.size ∉ Fr := fun hm => by have := hFr _ hm; omega
      have cb : W.cell? ⟨b, 0, none⟩ = some (ptr p) := by rw [blk_cell hBW.cell]; rfl
      have hbW := blk_lt hBW.cell
      refine Mix.wp_region_mixK [b, wr.heap.size] (.c 0 (.c 1 (.c 2 (.c 3 (.c 4 (.c 5 (.c 6 (.e 7 (.e 8 (.e 9 (.c 10 .done))))))))))) (by kernel_rfl) (by kernel_rfl) (by simp; exact ⟨hbW, hbx.lt⟩) ?_
      have d1 := Mix.Keeps.cell (L := [b, wr.heap.size]) (by simp) cb
      have d2 := Mix.Keeps.cell (L := [b, wr.heap.size]) (by simp) hbx.cell
      repeat (first | (refine Mix.mix_q rfl rfl rfl (fun K hK => ?_); (conv => arg 2; whnf); (first | (go_big_quiet_op; refine hK _ ?_) | (go_simp; refine hK _ ?_)); clear hK K) | (refine Mix.mix_nilK rfl rfl rfl rfl (fun K hK => ?_); (conv => arg 1; whnf); go_simp; refine hK _ ?_; clear hK K))
      refine Mix.mix_one rfl rfl (fun w3 hE3 K hK => ?_)
      (conv => arg 2; whnf)
      have E3 : Ext W w3 := (Ext.refl W).drew'.trans hE3
      have hB3 := hBW.turn (Turn.of_ext E3) (G := []) (by simp)
      have hS3 := ownsRow_turn (F := []) hSW (Turn.of_ext E3) (by simp)
      have hC3 := ownsRow_turn (F := []) hCW (Turn.of_ext E3) (by simp)
      go_big_op
      refine (Open_rc x p (es ++ opens k) Fr hlO w3 hB3.rc).mono ?_
      rintro e w4 ⟨rfl, Fr4, hR4, hT4, hF4⟩
      have hB4 := hB3.seen hR4 hT4 hF4
      have hw3 := E3.size
      have hS4 := ownsRow_turn hS3 hT4 (fun y e => hd y (by simp [e]))
      have hC4 := ownsRow_turn hC3 hT4 (fun y e => (hdc y (by simp [e])).1)
      have hdw3 : wr.heap.size < w3.heap.size := Nat.lt_of_lt_of_le hbx.lt hw3
      have hd4 : ∀ y ∈ (Value.slice aS k cS).ownBlock.toList, y ∉ Fr4 := fun y hy hm => by
        rcases hF4 y hm with h1 | h1
        · exact hd y hy h1
        · have := (hS3.lt y (by simpa using hy)).2; omega
      have hdc4 : ∀ y ∈ (Value.slice (some ⟨g1, 0, none⟩) xs.length c1).ownBlock.toList, y ∉ Fr4 := fun y hy hm => by
        rcases hF4 y hm with h1 | h1
        · exact (hdc y hy).1 h1
        · have := (hC3.lt y (by simpa using hy)).2; omega
      have hbW' := Nat.lt_of_lt_of_le hbW hw3
      have k4 : Mix.Keeps W [b, wr.heap.size] w4 := by
        intro y hy
        simp only [List.mem_cons, List.not_mem_nil, or_false] at hy
        rcases hy with rfl | rfl
        · exact (hT4.block _ hbW' hdb).trans (E3.block _ hbW)
        · exact (hT4.block _ hdw3 hdw).trans (E3.block _ hbx.lt)
      refine hK _ _ (Mix.yes k4) ?_
      clear hK K
      refine Mix.mix_one rfl rfl (fun w5 hE5 K hK => ?_)
      (conv => arg 2; whnf)
      go_big_op
      have hbl : ∀ y ∈ [b, wr.heap.size], y < w4.heap.size := by
        have := hT4.size
        simp
        omega
      have k5 : Mix.Keeps W [b, wr.heap.size] w5 := fun y hy => (hE5.block y (hbl y hy)).trans (k4 y hy)
      refine hK _ _ (Mix.yes (fun y hy => by
        have h5 := hE5.size
        have h4 := hbl y hy
        exact (Below.block ((Ext.refl w5).alloc' (.cells #[.int .i64 x] 3)) y (by omega)).trans (k5 y hy))) ?_
      clear hK K
      refine Mix.mix_one rfl rfl (fun w6 hE6 K hK => ?_)
      (conv => arg 2; whnf)
      have E6 : Ext w4 w6 := (hE5.alloc' _).trans hE6
      have hS6 := ownsRow_turn (F := []) hS4 (Turn.of_ext E6) (by simp)
      obtain ⟨i1, hi1, hy0, hy1, hy2⟩ := info_parts Try.infoInt
      refine wp_append_at w6 _ _ 63 rfl w.heap.size 3 i1 (.int .i64 0) 1 8 Try.underlying63 hi1 hy0 hy1 hy2 rfl (by decide) _ _ _ rfl hS6 ⟨w5.heap.size, 0, none⟩ 1 1 [.int .i64 x] rfl rfl ?_ ?_ (by unfold maxLen; omega) (by omega) (by have := hS6.1; have := hTW.size; have := E6.size; have := hT4.size; have := hEW.size; omega) ?_
      · exact fun j u hj => hE6.cell (cell_one_new _ _ _ j u hj)
      · simp [Value.oneCell']
      intro v7 w7 hrow7 hg7 hat7
      have hg7' : w6.grownBy w7 (Value.slice aS k cS).ownBlock := hg7
      have hat7' : v7.ownBlock = (Value.slice aS k cS).ownBlock ∨ v7.ownBlock = some w6.heap.size := hat7
      have hT7 : Turn (Value.slice aS k cS).ownBlock.toList w6 w7 := turn_grownO hg7' (fun y e => by simp [e])
      have hSlo : ∀ y ∈ (Value.slice aS k cS).ownBlock.toList, w.heap.size ≤ y ∧ y < wr.heap.size := fun y hy => hS.lt y (by simpa using hy)
      have hw46 := E6.size
      have hbS : b ∉ (Value.slice aS k cS).ownBlock.toList := fun hm => by
        have h1 := (hSlo b hm).1
        have h2 := hFb b (by simp [bfoot])
        omega
      have k7 : Mix.Keeps W [b, wr.heap.size] w7 := by
        intro y hy
        refine (hT7.block y (Nat.lt_of_lt_of_le (hbl y hy) hw46) ?_).trans ((E6.block y (hbl y hy)).trans (k4 y hy))
        simp only [List.mem_cons, List.not_mem_nil, or_false] at hy
        rcases hy with rfl | rfl
        · exact hbS
        · exact fun hm => by have := (hSlo _ hm).2; omega
      go_simp
      refine hK _ _ (Mix.yes k7) ?_
      clear hK K
      (refine Mix.mix_q rfl rfl rfl (fun K hK => ?_); (conv => arg 2; whnf); (first | (go_big_quiet_op; refine hK _ ?_) | (go_simp; refine hK _ ?_)); clear hK K)
      refine (Mix.mix_nil (fun w8 hE8 => ?_))
      (try dsimp only [Exit.then])
      have hrow8 := ownsRow_turn (F := []) hrow7 (Turn.of_ext hE8) (by simp)
      have htk : (xs.take k).map (Value.int .i64) ++ [.int .i64 x] = (xs.take (k + 1)).map (Value.int .i64) := by rw [List.take_add_one, hxk]; simp
      rw [htk] at hrow8
      have hT48 : Turn (Value.slice aS k cS).ownBlock.toList w4 w8 := ((Turn.of_ext E6).seq hT7).seq (Turn.of_ext hE8)
      have hws : w.heap.size ≤ W.heap.size := hTW.size
      have hwF : ∀ y ∈ Fr4, y ∈ Fr0 ∨ w.heap.size ≤ y := fun y hy => by
        rcases hF4 y hy with h1 | h1
        · exact hF y h1
        · exact .inr (by omega)
      have hB8 : BufAt w8 b p xs (es ++ opens (k + 1)) vb Fr4 := by
        have := hB4.turn hT48 (fun y hy hm => by
          simp only [bfoot, List.mem_cons, List.mem_append] at hy
          rcases hy with rfl | hy | hy
          · exact hbS hm
          · have h1 := hFb y (by simp only [bfoot, List.mem_cons, List.mem_append]; exact .inr (.inl hy))
            have h2 := (hSlo y hm).1
            omega
          · exact hd4 y hm hy)
        rw [List.append_assoc, opens_succ] at this
        exact this
      have hT8 : Turn Fr0 w w8 := ((hTW.seq (Turn.of_ext E3)).trans hT4 (fun y hy => hF y hy)).trans hT48 (fun y hy => .inr (hSlo y hy).1)
      have hd8 : ∀ y ∈ v7.ownBlock.toList, y ∉ Fr4 := fun y hy hm => by
        rcases hat7' with e | e
        · exact hd4 y (by rw [← e]; exact hy) hm
        · have h1 : y = w6.heap.size := by simpa [e, eq_comm] using hy
          have := hR4.lt y hm
          omega
      have hC8 := ownsRow_turn hC4 hT48 (fun y e => (hdc y (by simp [e])).2)
      have hdc8 : ∀ y ∈ (Value.slice (some ⟨g1, 0, none⟩) xs.length c1).ownBlock.toList, y ∉ Fr4 ∧ y ∉ v7.ownBlock.toList := fun y hy => ⟨hdc4 y hy, fun hm => by
        rcases hat7' with e | e
        · exact (hdc y hy).2 (by rw [← e]; exact hm)
        · have h1 : y = w6.heap.size := by simpa [e, eq_comm] using hm
          have := (hC.lt y (by simpa using hy)).2
          have := hEW.size
          have := hT4.size
          omega⟩
      clear hd4 hdc4 hrow7 hg7 hat7 hT7 k7 k5 k4 hE5 hE6 E6 hS6 hS4 hC4 hB4 hS3 hC3 hB3 hSW hCW hBW cb d1 d2 hbl hR4 hT4 hF4 hg7'
      go_wp2
      go_roundw
      case rel => exact ⟨k + 1, Fr4, by omega, by go_num, hrow8, fun h => by omega, hB8, hT8, hwF, hd8, hC8, hdc8⟩
      case measure => simp [intOf]; omega
    · have hkn : k = xs.length := by omega
      subst hkn
      rw [List.take_length] at hS
      go_wp2
      go_ret
      refine ⟨_, bfoot b vb Fr, rfl, hS, fun h => hS0 (by rw [h]; rfl), ⟨vb, Fr, hB, rfl⟩, turn_mono hT (fun y hy => by rw [hF0]; simp [bfoot, hy]), fun y hy => ?_⟩
      rw [hF0]
      simp only [bfoot, List.mem_cons, List.mem_append] at hy ⊢
      rcases hy with h | h | h
      · exact .inl (.inl h)
      · exact .inl (.inr (.inl h))
      · rcases hF y h with h1 | h1
        · exact .inl (.inr (.inr h1))
        · exact .inr h1
end Go.Proofs.Ytoipadeeochbnaa
