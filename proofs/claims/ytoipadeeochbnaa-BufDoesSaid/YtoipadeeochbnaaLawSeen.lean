import Derived.Test.YtoipadeeochbnaaOfB
import Derived.Test.YtoipadeeochbnaaBuf6
namespace Go.Proofs.Ytoipadeeochbnaa
open Go.RowKit Mix
set_option linter.unusedVariables false
attribute [local go_sem] Mix.calm Oper.quietUpon Try.words_nil
theorem zeros_arg {w : World} {base g n cp : Nat} (h : w.ownsRow base 3 1 (.slice (some ⟨g, 0, none⟩) n cp) n (List.replicate n (.int .i64 0))) : ArgInts w .i64 (some ⟨g, 0, none⟩) (List.replicate n 0) := by
  intro i x hx
  have hi : i < n := by
    have := (List.getElem?_eq_some_iff.1 hx).1
    simpa using this
  have hc := h.cells (g := g) rfl i (.int .i64 0) (by simp [hi])
  have e : x = 0 := by
    have : (List.replicate n (0 : Int))[i]? = some 0 := rep_get' hi
    rw [this] at hx
    cases hx
    rfl
  subst e
  exact ⟨_, rfl, hc⟩
where rep_get' {M k : Nat} (h : k < M) : (List.replicate M (0 : Int))[k]? = some 0 := by simp [h]
theorem of04_zero (n g c : Nat) (w : World) (hn : n ≤ 40) {base : Nat} (h : w.ownsRow base 3 1 (.slice (some ⟨g, 0, none⟩) n c) n (madeCells (Value.int .i64 0).cells (n * 1)).toList) :
    Calls Try.prog 60 #[.slice (some ⟨g, 0, none⟩) n c] w (OfOut (List.replicate n 0) w) := by
  have hzr : (madeCells (Value.int .i64 0).cells (n * 1)).toList = List.replicate n (.int .i64 0) := by rw [Nat.mul_one]; exact toList_madeCells_one _ _
  rw [hzr] at h
  have mZ := of04_any _ c (List.replicate n 0) w (zeros_arg h) (fun h => by cases h) (by simp; omega)
  rw [List.length_replicate] at mZ
  exact mZ
def HasC (a : Addr) (v : Value) (w : World) : Prop := w.cell? a = some v
/-- What is told of the two buffers between two rounds. -/
structure Two (w : World) (n k : Nat) (a b ra rb : Nat) (xs ys : List Int) (es : List (Int × Int)) (F G : List Nat) (wr : World) : Prop where
  A : Bf wr a (some ra) xs es F
  B : Bf wr b (some rb) ys es G
  la : xs.length = n
  lb : ys.length = n
  le : es.length ≤ 2 * k
  ce : countE es 3 = 0
  ap : ∀ x ∈ F, x ∉ G
  gF : ∀ x ∈ F, w.heap.size ≤ x
  gG : ∀ x ∈ G, w.heap.size ≤ x
  E : Ext w wr
set_option maxHeartbeats 2000000 in
set_option maxRecDepth 100000 in
theorem BufSeen_walk (ao : Option Addr) (cl : Nat) (l : List Int) (hc : ao = none → cl = 0) (x : Int) (at_ : Option Addr) (ca : Nat) (us : List Int) (hub : ∀ u ∈ us, 0 ≤ u ∧ u ≤ 255) (w : World) (hl : ArgInts w .i64 ao l) (hu : ArgInts w .u8 at_ us) :
    Calls Try.prog 16 #[.slice ao l.length cl, .int .i64 x, .slice at_ us.length ca] w fun e w' => e = .returned (.bool true) ∧ Ext w w' := by
  by_cases hb1 : 40 < l.length
  · go_enter Try.func16, Try.ntmps16
    go_wp2_with fail
    refine (known04_any _).mono ?_
    rintro e w1 ⟨rfl, hE1⟩
    go_wp2
    go_ret
    exact ⟨rfl, hE1⟩
  have hd1 : decide ((40 : Int) < (l.length : Int)) = false := by simp; omega
  by_cases hb2 : 60 < us.length
  · go_enter Try.func16, Try.ntmps16
    go_wp2_with fail
    refine (known04_any _).mono ?_
    rintro e w1 ⟨rfl, hE1⟩
    go_wp2
    go_ret
    exact ⟨rfl, hE1⟩
  have hd2 : decide ((60 : Int) < (us.length : Int)) = false := by simp; omega
  obtain ⟨i1, hi, hz0, hz1, hz2⟩ := info_parts Try.infoInt
  go_enter Try.func16, Try.ntmps16
  go_wp2_with fail
  refine (of04_any ao cl l w hl hc (by omega)).mono ?_
  rintro e w1 ⟨a, ra, va, Fa, tL, rfl, hA1, hgA, hLr, _, hE1⟩
  obtain ⟨aL, cL, rfl⟩ := own_form hLr
  clear hLr
  have hub' := Lib.hid hub
  have hgA' := Lib.hid hgA
  clear hub hgA
  go_wp2_with (first | (at_make; refine wpList_make_full _ rfl _ _ 63 rfl 0 3 i1 _ 1 Try.underlying63 hi hz0 hz1 _ _ _ _ l.length rfl rfl rfl rfl (by rw [hz2]; omega) (by unfold maxLen; omega) (by omega) ?_; intro w2 hrow2 hg2; simp only [World.size_alloc] at hrow2) | (go_at_call 60; refine (of04_zero l.length _ _ _ (by omega) hrow2).mono ?_; rintro e w3 ⟨b, rb, vb, Fb, tM, rfl, hB3, hgB, hMr, _, hE3⟩; obtain ⟨aM, cM, rfl⟩ := own_form hMr; clear hMr))
  have hE12 : Ext w1 w2 := by
    have hT := (turn_grownO (F := []) hg2 (fun y e => by cases e)).below (B := w1.heap.size) (by simp) (by simp)
    exact Below.trans ((Ext.refl w1).alloc' _) hT
  have hA2 := hA1.turn (Turn.of_ext hE12) (G := []) (by simp)
  have hA3 := hA2.turn (Turn.of_ext hE3) (G := []) (by simp)
  have hltA := fun y hy => (show Bf w2 a (some ra) l [] _ from ⟨_, _, hA2, rfl⟩).lt y hy
  have hgA := hgA'.out
  have hap : ∀ y ∈ bfoot a va Fa, y ∉ bfoot b vb Fb := fun y hy hm => by
    have h1 := hltA y hy
    have h2 := hgB y hm
    omega
  have hgB' : ∀ y ∈ bfoot b vb Fb, w.heap.size ≤ y := fun y hy => by
    have h2 := hgB y hy
    have h3 := hE12.size
    have h4 := hE1.size
    omega
  have hEW := (Ext.refl w3).alloc' (.cells #[.slice aM l.length cM, .slice none 0 0] 82)
  have h2 : Two w l.length 0 a b ra rb l (List.replicate l.length 0) [] (bfoot a va Fa) (bfoot b vb Fb) (w3.alloc (.cells #[.slice aM l.length cM, .slice none 0 0] 82)) :=
    ⟨⟨_, _, hA3.turn (Turn.of_ext hEW) (G := []) (by simp), rfl⟩, ⟨_, _, hB3.turn (Turn.of_ext hEW) (G := []) (by simp), rfl⟩, rfl, by simp, by simp, rfl, hap, hgA, hgB', ((hE1.trans hE12).trans hE3).trans hEW⟩
  have h2' := Lib.hid h2
  clear hap hgA hgB hgB' hA2 hA3 hB3 hltA h2 hg2 hrow2 hEW
  go_loopw [11] (fun t wr => ∃ (k : Nat) (xs ys : List Int) (es : List (Int × Int)) (F G : List Nat), k ≤ us.length ∧ t = .int .i64 k ∧ Two w l.length k a b ra rb xs ys es F G wr) (fun t _ => us.length - (intOf t).toNat)
  case atStart =>
    exact ⟨0, l, List.replicate l.length 0, [], bfoot a va Fa, bfoot b vb Fb, Nat.zero_le _, rfl, h2'.out⟩
  case round =>
    clear h2'
    obtain ⟨k, xs, ys, es, F, G, hk, rfl, hT⟩ := hrel
    by_cases hlt : k < us.length
    · obtain ⟨u, hku⟩ : ∃ u, us[k]? = some u := ⟨_, List.getElem?_eq_getElem hlt⟩
      obtain ⟨au, rfl, hcu⟩ := hu k u hku
      obtain ⟨hu0, hu1⟩ := hub'.out u (List.mem_of_getElem? hku)
      clear hku
      go_wp2
      have hcw : ∀ w', Ext w w' → w'.cell? (au.add k) = some (.int .u8 u) := fun w' h => h.cell hcu
      have hcw' := Lib.hid hcw
      clear hcw
      obtain ⟨tA, tB, tla, tlb, tle, tce, tap, tgF, tgG, tE⟩ := hT
      have le1 := seenV_len xs.length (u % 50)
      have le2 := seenV_len xs.length (u / 3)
      -- a.Set
      have s0 : HasC (au.add k) (.int .u8 u) wr := hcw'.out _ tE
      haveI : Inhabited (Mix.Yw (HasC (au.add k) (.int .u8 u))) := ⟨⟨wr, s0⟩⟩
      refine Mix.wp_region_mixY (HasC (au.add k) (.int .u8 u)) (.c 0 (.c 1 (.c 2 (.c 3 (.c 4 (.c 5 (.c 6 (.c 7 (.c 8 (.e 9 .done)))))))))) (by kernel_rfl) (by kernel_rfl) (fun _ _ h k => k.cell h) s0 ?_
      have d1 : ∀ y : Mix.Yw (HasC (au.add k) (.int .u8 u)), y.w.cell? (au.add k) = some (.int .u8 u) := fun y => y.h
      repeat (refine Mix.mix_q rfl rfl rfl (fun K hK => ?_); (conv => arg 2; whnf); (first | (go_big_quiet_op; refine hK _ ?_) | (go_simp; refine hK _ ?_)); clear hK K)
      (refine Mix.mix_c rfl rfl (fun K hK => ?_); (conv => arg 2; whnf); go_simp; apply Exists.intro; refine ⟨fun _ => ?_, hK _ ?_⟩; exact of_any x _; clear hK K)
      refine Mix.mix_one rfl rfl (fun w4 hE4 K hK => ?_)
      (conv => arg 2; whnf)
      have E4 : Ext wr w4 := (Ext.refl wr).drew'.trans hE4
      go_big_op
      refine (Set_any a (some ra) xs es F (u % 50) x w4 (tA.ext E4) (by omega) (.inr (by omega))).mono ?_
      rintro e w5 ⟨rfl, F5, hA5, hT5, hF5⟩
      have E04 := tE.trans E4
      have E05 : Ext w w5 := Mix.Ext.trans' E04 hT5 tgF
      refine hK _ _ (Mix.yes (hcw'.out _ E05)) ?_
      clear hK K
      refine Mix.mix_nil (fun w6 hE6 => ?_)
      (try dsimp only [Exit.then])
      have tB6 := ((tB.ext E4).turn hT5 (apart_symm tap)).ext hE6
      have tA6 := hA5.ext hE6
      have ap6 := apart_step hF5 tap (tB.ext E4).lt
      have gF6 := ge_step hF5 tgF E04.size
      have E06 := E05.trans hE6
      clear d1 s0 tA tB tap tgF tE hA5 hT5 hF5 E04 E05 hE4 E4 hE6
      go_wp2
      have s6 : HasC (au.add k) (.int .u8 u) w6 := hcw'.out _ E06
      refine Mix.wp_region_mixY (HasC (au.add k) (.int .u8 u)) (.c 0 (.c 1 (.c 2 (.c 3 (.c 4 (.c 5 (.c 6 (.c 7 (.c 8 (.c 9 (.c 10 (.c 11 (.c 12 (.c 13 (.e 14 (.e 15 .done)))))))))))))))) (by kernel_rfl) (by kernel_rfl) (fun _ _ h k => k.cell h) s6 ?_
      have d1 : ∀ y : Mix.Yw (HasC (au.add k) (.int .u8 u)), y.w.cell? (au.add k) = some (.int .u8 u) := fun y => y.h
      repeat (refine Mix.mix_q rfl rfl rfl (fun K hK => ?_); (conv => arg 2; whnf); (first | (go_big_quiet_op; refine hK _ ?_) | (go_simp; refine hK _ ?_)); clear hK K)
      have lx : (setV xs (u % 50) x).length = l.length := by rw [setV_len]; exact tla
      refine Mix.mix_one rfl rfl (fun w7 hE7 K hK => ?_)
      (conv => arg 2; whnf)
      have E7 : Ext w6 w7 := (Ext.refl w6).drew'.trans hE7
      go_big_op
      refine (Get_any a (some ra) (setV xs (u % 50) x) _ F5 (u / 3) w7 (tA6.ext E7) (by omega) (.inr (by rw [List.length_append]; omega))).mono ?_
      rintro e w8 ⟨rfl, F8, hA8, hT8, hF8⟩
      have E07 := E06.trans E7
      have E08 : Ext w w8 := Mix.Ext.trans' E07 hT8 gF6
      have tB8 := (tB6.ext E7).turn hT8 (apart_symm ap6)
      have ap8 := apart_step hF8 ap6 (tB6.ext E7).lt
      have gF8 := ge_step hF8 gF6 E07.size
      refine hK _ _ (Mix.yes (hcw'.out _ E08)) ?_
      clear hK K
      refine Mix.mix_one rfl rfl (fun w9 hE9 K hK => ?_)
      (conv => arg 2; whnf)
      go_big_op
      refine (Set_any b (some rb) ys es G (u % 50) _ w9 (tB8.ext hE9) (by omega) (.inr (by omega))).mono ?_
      rintro e w10 ⟨rfl, G10, hB10, hT10, hG10⟩
      have E09 := E08.trans hE9
      have E10 : Ext w w10 := Mix.Ext.trans' E09 hT10 tgG
      have tA10 := (hA8.ext hE9).turn hT10 ap8
      have ap10 := apart_symm (apart_step hG10 (apart_symm ap8) (hA8.ext hE9).lt)
      have gG10 := ge_step hG10 tgG E09.size
      refine hK _ _ (Mix.yes (hcw'.out _ E10)) ?_
      clear hK K
      refine Mix.mix_nil (fun w11 hE11 => ?_)
      (try dsimp only [Exit.then])
      have tA11 := tA10.ext hE11
      have tB11 := hB10.ext hE11
      have E11 := E10.trans hE11
      have c11 := hcw'.out _ E11
      have ly : (setV ys (u % 50) (getV (setV xs (u % 50) x) (u / 3))).length = l.length := by rw [setV_len]; exact tlb
      have le3 := seenV_len (setV xs (u % 50) x).length (u / 3)
      clear d1 s6 tA6 tB6 ap6 gF6 hA8 hT8 hF8 E07 E08 tB8 ap8 tgG hB10 hT10 hG10 E09 E10 tA10 hE11 hE9 hE7 E7 E06
      go_wp2_with fail
      refine (Get_any b (some rb) _ _ G10 (u / 3) w11 tB11 (by omega) (.inr (by rw [List.length_append]; rw [tlb, ← tla]; omega))).mono ?_
      rintro e w12 ⟨rfl, G12, hB12, hT12, hG12⟩
      have tA12 := tA11.turn hT12 ap10
      have ap12 := apart_symm (apart_step hG12 (apart_symm ap10) tA11.lt)
      have gG12 := ge_step hG12 gG10 E11.size
      have E12 : Ext w w12 := Mix.Ext.trans' E11 hT12 gG10
      go_wp2
      go_roundw
      case rel =>
        refine ⟨k + 1, _, _, _, F8, G12, by omega, by go_num, ⟨tA12, ?_, lx, ly, ?_, ?_, ap12, gF8, gG12, E12⟩⟩
        · rw [lx, tla]
          rw [ly, tlb] at hB12
          exact hB12
        · simp only [List.length_append]
          omega
        · rw [countE_append, countE_append, tce, seenV_count, seenV_count]
          rfl
      case measure => simp [intOf]; omega
    · have hEq : Ext w wr := hT.E
      obtain ⟨tA, tB, tla, tlb, tle, tce, tap, tgF, tgG, tE⟩ := hT
      obtain ⟨v1, Fr1, hA1', rfl⟩ := tA
      obtain ⟨v2, Fr2, hB1', rfl⟩ := tB
      go_wp2_with fail
      refine (known04_any _).mono ?_
      rintro e w4 ⟨rfl, hE4⟩
      have hA4 := hA1'.turn (Turn.of_ext hE4) (G := []) (by simp)
      have hB4 := hB1'.turn (Turn.of_ext hE4) (G := []) (by simp)
      go_wp2_with fail
      refine (Trace_bf a _ _ _ _ _ w4 hA4).mono ?_
      rintro e w5 ⟨rfl, rfl⟩
      go_wp2_with fail
      refine (Count_rc ra es _ 3 w4 hA4.rc (by omega)).mono ?_
      rw [tce]
      rintro e w5 ⟨rfl, hE5⟩
      have hA5 := hA4.turn (Turn.of_ext hE5) (G := []) (by simp)
      have hB5 := hB4.turn (Turn.of_ext hE5) (G := []) (by simp)
      go_wp2_with fail
      refine (Words_bf a _ _ _ _ _ w5 hA5 (by omega)).mono ?_
      rintro e w6 ⟨v6, rfl, hrow6, _, hE6⟩
      obtain ⟨a6, c6, rfl⟩ := own_form hrow6
      rw [tla]
      have hA6 := hA5.turn (Turn.of_ext hE6) (G := []) (by simp)
      have hB6 := hB5.turn (Turn.of_ext hE6) (G := []) (by simp)
      go_wp2_with fail
      refine (Trace_bf a _ _ _ _ _ w6 hA6).mono ?_
      rintro e w7 ⟨rfl, rfl⟩
      go_wp2_with fail
      refine (Trace_bf b _ _ _ _ _ w6 hB6).mono ?_
      rintro e w7 ⟨rfl, rfl⟩
      go_wp2_with fail
      refine (Same_rc ra rb es _ _ w6 hA6.rc hB6.rc).mono ?_
      rintro e w7 ⟨rfl, hE7⟩
      go_wp2
      go_ret
      exact ⟨rfl, hEq.trans (hE4.trans (hE5.trans (hE6.trans hE7)))⟩
end Go.Proofs.Ytoipadeeochbnaa
