import Derived.Test.YtoipadeeochbnaaTr2
import Derived.Test.YtoipadeeochbnaaRange
import Derived.OwnWalkIn
import Derived.TacticsInMore
import Derived.LoopNIn
import Derived.LoopIn
namespace Go.Proofs.Ytoipadeeochbnaa
open Go.RowKit Mix
set_option linter.unusedVariables false
attribute [local go_sem] Mix.calm Oper.quietUpon Oper.semAt_some
/-- The events, part by part. -/
def partsE (es : List (Int × Int)) : List (List (Int × Int)) := if es.length = 0 then [] else if es.length ≤ 62 then [es] else [es.take 62, es.drop 62]
theorem partsE_map (es : List (Int × Int)) : partsOf (es.map evW) = (partsE es).map (List.map evW) := by
  unfold partsOf partsE
  rw [List.length_map]
  split
  · rfl
  · split <;> simp [List.map_take, List.map_drop]
theorem partsE_flat (es : List (Int × Int)) : (partsE es).flatten = es := by
  unfold partsE
  split
  · rename_i h
    simp [List.eq_nil_of_length_eq_zero h]
  · split
    · simp
    · simp
theorem partsE_sub (es : List (Int × Int)) : ∀ p ∈ partsE es, ∀ e ∈ p, e ∈ es := by
  intro p hp e he
  rw [← partsE_flat es]
  exact List.mem_flatten.2 ⟨p, hp, he⟩
def encE (e : Int × Int) : Array Value := #[.agg #[.int .i64 e.1, .int .i64 e.2]]
theorem ev_and {e : Int × Int} (h : EvOk e) : wrap64 (bits .and .u32 (evW e) 3) = e.1 := by
  obtain ⟨h1, h2, h3, h4⟩ := h
  have e1 : (BitVec.ofInt 32 (evW e)).toNat = (evW e).toNat := by
    rw [BitVec.toNat_ofInt]; unfold evW; omega
  have e2 : (BitVec.ofInt 32 (3 : Int)).toNat = 3 := by decide
  have e3 : (evW e).toNat &&& 3 = (evW e).toNat % 4 := Nat.and_two_pow_sub_one_eq_mod _ 2
  have : bits .and .u32 (evW e) 3 = e.1 := by
    show IntKind.u32.wrap ((BitVec.ofInt 32 (evW e) &&& BitVec.ofInt 32 3).toNat : Int) = _
    rw [BitVec.toNat_and, e1, e2, e3]
    unfold evW
    simp [IntKind.wrap, IntKind.bits, IntKind.signed]
    omega
  rw [this]
  unfold wrap64
  omega
theorem ev_shr {e : Int × Int} (h : EvOk e) : evW e / 4 = e.2 := by
  obtain ⟨h1, h2, h3, h4⟩ := h
  unfold evW
  omega
theorem parts_step {es : List (Int × Int)} {ps : List (List (Int × Int))} {j i : Nat} {p : List (Int × Int)} {e : Int × Int} (hps : ps = partsE es) (hp : ps[j]? = some p) (he : p[i]? = some e) :
    ((ps.take j).flatten ++ p.take i) ++ [e] <+: es ∧ ((ps.take j).flatten ++ p.take i) ++ [e] = (ps.take j).flatten ++ p.take (i + 1) := by
  have h2 : p.take (i + 1) = p.take i ++ [e] := by rw [List.take_add_one, he]; rfl
  refine ⟨?_, by rw [h2, List.append_assoc]⟩
  have h1 : es = (ps.take j).flatten ++ (p ++ (ps.drop (j + 1)).flatten) := by
    rw [← List.flatten_cons, ← List.flatten_append]
    have : p :: ps.drop (j + 1) = ps.drop j := by
      obtain ⟨hj, rfl⟩ := List.getElem?_eq_some_iff.1 hp
      exact (List.drop_eq_getElem_cons hj).symm
    rw [this, List.take_append_drop, hps, partsE_flat]
  rw [List.append_assoc, ← h2]
  conv => rhs; rw [h1]
  refine List.prefix_append_right_inj _ |>.2 ?_
  exact (List.take_prefix _ _).trans (List.prefix_append _ _)
theorem parts_next {ps : List (List (Int × Int))} {j : Nat} {p : List (Int × Int)} (hp : ps[j]? = some p) : (ps.take j).flatten ++ p.take p.length = (ps.take (j + 1)).flatten := by
  rw [List.take_length, List.take_add_one, hp]
  simp
theorem each_read {W : World} {r g cp n : Nat} {es : List (Int × Int)} {qs : List Nat} {j q : Nat} {p : List (Int × Int)} (h : Rc W (some r) es (foot r (.slice (some ⟨g, 0, none⟩) n cp) qs)) (hp : (partsE es)[j]? = some p) (hq : qs[j]? = some q) :
    W.cell? ⟨g, j, none⟩ = some (.slice (some ⟨q, 0, none⟩) p.length (capN j)) ∧ ∀ (i : Nat) (e : Int × Int), p[i]? = some e → W.cell? ⟨q, i, none⟩ = some (.int .u32 (evW e)) := by
  obtain ⟨_, v, qs', hA, hF, _⟩ := h
  rw [partsE_map] at hA
  have hj := (List.getElem?_eq_some_iff.1 hp).1
  obtain ⟨g', cp', rfl⟩ := ownsRow_form hA.row (by simp; omega)
  simp only [foot, Value.ownBlock, Option.toList_some, List.singleton_append, List.cons.injEq, true_and] at hF
  obtain ⟨rfl, rfl⟩ := hF
  have hp' : (List.map (List.map evW) (partsE es))[j]? = some (p.map evW) := by rw [List.getElem?_map, hp]; rfl
  refine ⟨?_, fun i e he => ?_⟩
  · rw [hA.row.cellAt j (by simpa using hj), heads_get hp' hq, List.length_map]
  · have hi := (List.getElem?_eq_some_iff.1 he).1
    rw [(hA.part j _ q hp' hq).cellAt i (by simpa using hi)]
    simp [he]
theorem each_bd {W : World} {r : Nat} {es : List (Int × Int)} {F : List Nat} {j : Nat} {p : List (Int × Int)} (h : Rc W (some r) es F) (hp : (partsE es)[j]? = some p) : p.length ≤ 65536 := by
  obtain ⟨_, v, qs', hA, _, _⟩ := h
  rw [partsE_map] at hA
  have hj := (List.getElem?_eq_some_iff.1 hp).1
  obtain ⟨q, hq⟩ : ∃ q, qs'[j]? = some q := ⟨_, List.getElem?_eq_getElem (by rw [hA.len]; simpa using hj)⟩
  have hr := hA.part j (p.map evW) q (by rw [List.getElem?_map, hp]; rfl) hq
  rcases hr.2 with ⟨h0, _⟩ | ⟨g, cap, cur, he, _, _, hle, _⟩
  · cases h0
  · have e1 : capN j = cap := by simp at he; exact he.2
    have : capN j ≤ 65536 := Nat.min_le_left _ _
    simp at hle
    omega
theorem each_gives (r : Nat) (es : List (Int × Int)) (F : List Nat) (B : Nat) (J : List (Int × Int) → World → Prop) (hR : ∀ pre W, J pre W → Rc W (some r) es F) (hJ : ∀ pre W W', J pre W → Ext W W' → J pre W') :
    Gives Try.prog 101 #[.pointer (some ⟨r, 0, none⟩)] #[] encE B (J []) J (fun pre _ W => J pre W) es := by
  intro l K W hK hk h0 hY
  obtain ⟨hok, v, qs, hA, rfl, hv0⟩ := hR _ _ h0
  rw [partsE_map] at hA
  obtain ⟨ps, hps⟩ : ∃ ps, ps = partsE es := ⟨_, rfl⟩
  rw [← hps] at hA
  rcases Nat.eq_zero_or_pos ps.length with hn | hn
  · have hps0 : ps = [] := List.eq_nil_of_length_eq_zero hn
    subst hps0
    have hes : es = [] := by rw [← partsE_flat es, ← hps]; rfl
    subst hes
    obtain rfl := hv0 rfl
    clear hps hv0
    refine callsIn_of_wp Try.func101 rfl trivial ?_ rfl
    simp only [Try.ntmps101, List.size_toArray, List.length_cons, List.length_nil, Nat.reduceAdd, Nat.reduceSub, Array.replicate_succ, Array.replicate_zero, List.push_toArray, List.append_toArray, List.nil_append, List.cons_append]
    gi_wp2_with (refine ⟨trivial, ?_⟩; gi_at_call 103; refine (callsIn_wide.2 (all_rc r [] _ _ _ hA.cell)).mono ?_; rintro e w' ⟨rfl, rfl⟩)
    gi_loopw [11] (fun t wr => t = .int .i64 0 ∧ J [] wr ∧ K wr) (fun t _ => 0 - (intOf t).toNat)
    case atStart => exact ⟨rfl, h0, hk⟩
    case round =>
      obtain ⟨rfl, hjr, hkr⟩ := hrel
      gi_wp2
      go_end0
      exact ⟨⟨_, rfl⟩, hjr, hkr⟩
  obtain ⟨g, cp, rfl⟩ : ∃ g cp, v = .slice (some ⟨g, 0, none⟩) ps.length cp := by
    have := ownsRow_form hA.row (by simpa using hn)
    simpa using this
  have hps' := Lib.hid hps
  clear hps hv0
  have hlen : ps.length ≤ 2 := by
    rw [hps'.out]
    unfold partsE
    split
    · simp
    · split <;> simp
  refine callsIn_of_wp Try.func101 rfl trivial ?_ rfl
  simp only [Try.ntmps101, List.size_toArray, List.length_cons, List.length_nil, Nat.reduceAdd, Nat.reduceSub, Array.replicate_succ, Array.replicate_zero, List.push_toArray, List.append_toArray, List.nil_append, List.cons_append]
  gi_wp2_with (refine ⟨trivial, ?_⟩; gi_at_call 103; refine (callsIn_wide.2 (all_rc r es _ _ _ hA.cell)).mono ?_; rintro e w' ⟨rfl, rfl⟩)
  gi_loopw [11] (fun t wr => ∃ j : Nat, j ≤ ps.length ∧ t = .int .i64 j ∧ J (ps.take j).flatten wr ∧ K wr) (fun t _ => ps.length - (intOf t).toNat)
  case atStart => exact ⟨0, Nat.zero_le _, rfl, h0, hk⟩
  case round =>
    obtain ⟨j, hj, rfl, hjr, hkr⟩ := hrel
    by_cases hlt : j < ps.length
    · obtain ⟨p, hp⟩ : ∃ p, ps[j]? = some p := ⟨_, List.getElem?_eq_getElem hlt⟩
      obtain ⟨q, hq⟩ : ∃ q, qs[j]? = some q := ⟨_, List.getElem?_eq_getElem (by rw [hA.len]; simpa using hlt)⟩
      have hread : ∀ pre W, J pre W → W.cell? ⟨g, j, none⟩ = some (.slice (some ⟨q, 0, none⟩) p.length (capN j)) ∧ ∀ (i : Nat) (e : Int × Int), p[i]? = some e → W.cell? ⟨q, i, none⟩ = some (.int .u32 (evW e)) :=
        fun pre W h => each_read (hR pre W h) (by rw [← hps'.out]; exact hp) hq
      obtain ⟨hcg, _⟩ := hread _ _ hjr
      have hpl : p.length ≤ 65536 := each_bd (hR _ _ hjr) (by rw [← hps'.out]; exact hp)
      have hread' := Lib.hid hread
      clear hread hq
      gi_wp2
      gi_loopw [6] (fun t wr' => ∃ i : Nat, i ≤ p.length ∧ t = .int .i64 i ∧ J ((ps.take j).flatten ++ p.take i) wr' ∧ K wr') (fun t _ => p.length - (intOf t).toNat)
      case atStart => exact ⟨0, Nat.zero_le _, rfl, by simpa using hjr, hkr⟩
      case round =>
        obtain ⟨i, hi, rfl, hji, hki⟩ := hrel
        by_cases hlt2 : i < p.length
        · obtain ⟨e, he⟩ : ∃ e, p[i]? = some e := ⟨_, List.getElem?_eq_getElem hlt2⟩
          have hce := (hread'.out _ _ hji).2 i e he
          have hek : EvOk e := hok e (partsE_sub es p (by rw [← hps'.out]; exact List.mem_of_getElem? hp) e (List.mem_of_getElem? he))
          have hv1 := ev_and hek
          have hv2 := ev_shr hek
          have hv1' := Lib.hid hv1
          have hv2' := Lib.hid hv2
          clear hv1 hv2
          obtain ⟨ho1, ho2, ho3, ho4⟩ := hek
          have hx1 : 0 ≤ evW e := by unfold evW; omega
          have hx2 : evW e < 2147483648 := by unfold evW; omega
          gi_wp2
          refine wpIn_wide.2 ?_
          refine Mix.wp_region_mixX 0 (.c 0 (.c 1 (.c 2 (.c 3 (.c 4 (.c 5 (.c 6 (.c 7 (.c 8 (.c 9 (.c 10 (.c 11 (.c 12 (.e 13 (.e 14 .done))))))))))))))) (by kernel_rfl) (by kernel_rfl) (Nat.zero_le _) (fun hap hapf => ?_)
          have hcx : ∀ x, (ap wr x).cell? ⟨q, i, none⟩ = some (.int .u32 (evW e)) := fun x => (ap_ext wr x).cell hce
          repeat (refine Mix.mix_q rfl rfl rfl (fun K hK => ?_); (conv => arg 2; whnf); (first | (go_big_quiet_op; refine hK _ ?_) | (go_simp; refine hK _ ?_)); clear hK K)
          rw [hv1'.out, hv2'.out]
          clear hcx hap hapf
          refine Mix.mix_one rfl rfl (fun w3 hE3 K2 hK2 => ?_)
          (conv => arg 2; whnf)
          go_big_op
          refine hK2 _ _ (Mix.ext_ap (((Ext.refl wr).drew'.trans hE3).alloc' _)) ?_
          clear hK2 K2
          refine Mix.mix_last rfl rfl (by kernel_rfl) (fun w4 hE4 K2 hK2 => ?_)
          (conv => arg 2; whnf)
          have hb4 : w4.heap[w3.heap.size]? = some (.cells #[.int .i64 0, .int .i64 0] 145 (0, 0)) := hE4.blk (World.alloc_heap_new w3 _)
          have hb40 : w4.cell? ⟨w3.heap.size, 0, none⟩ = some (.int .i64 0) := by rw [blk_cell hb4]; rfl
          have hb41 : w4.cell? ⟨w3.heap.size, 1, none⟩ = some (.int .i64 0) := by rw [blk_cell hb4]; rfl
          have hf40 : w4.frozen? ⟨w3.heap.size, 0, none⟩ = false := blk_free hb4 0
          have hf41 : w4.frozen? ⟨w3.heap.size, 1, none⟩ = false := blk_free hb4 1
          go_big_op
          refine hK2 _ _ (fun w5 hE5 => ?_)
          clear hK2 K2
          have hz3 : wr.heap.size ≤ w3.heap.size := hE3.size
          have E5 : Ext wr w5 := (((((Ext.refl wr).drew'.trans hE3).alloc' _).trans hE4).set' hz3 _ |>.set' hz3 _).trans hE5
          have hb5 := hE5.blk (blk_set (o := 1) (v := .int .i64 e.2) (blk_set (o := 0) (v := .int .i64 e.1) hb4))
          have hb50 : w5.cell? ⟨w3.heap.size, 0, none⟩ = some (.int .i64 e.1) := by rw [blk_cell hb5]; rfl
          have hb51 : w5.cell? ⟨w3.heap.size, 1, none⟩ = some (.int .i64 e.2) := by rw [blk_cell hb5]; rfl
          have hji5 := hJ _ _ _ hji E5
          have hki5 := hK _ _ hki ⟨E5.size, fun k o _ hk _ => E5.blk hk⟩
          have hce5 := (hread'.out _ _ hji5).2 i e he
          clear hb40 hb41 hf40 hf41 hb4 hb5 hE5 hE4 hE3
          dsimp only [Exit.then]
          obtain ⟨hpre, hnext⟩ := parts_step hps'.out hp he
          obtain ⟨fn, tmps, asg, bod, hy, hRd⟩ := hY _ e w5 hpre hji5 hki5
          rw [hnext] at hRd
          simp only [encE] at hy
          have hfar : decide ((2147483648 : Int) ≤ evW e) = false := by simpa using hx2
          clear hpre hnext
          gi_wp2
          refine hRd.mono ?_
          rintro e' W' ⟨rfl, hj', hk'⟩
          gi_wp2
          go_roundw
          case rel => exact ⟨i + 1, by omega, by go_num, hj', hk'⟩
          case measure => simp [intOf]; omega
        · have hie : i = p.length := by omega
          subst hie
          rw [parts_next hp] at hji
          gi_wp2
          go_roundw
          case rel => exact ⟨j + 1, by omega, by go_num, hji, hki⟩
          case measure => simp [intOf]; omega
    · have hje : j = ps.length := by omega
      subst hje
      gi_wp2
      go_end0
      rw [List.take_length, hps'.out, partsE_flat] at hjr
      exact ⟨⟨_, rfl⟩, hjr, hkr⟩
end Go.Proofs.Ytoipadeeochbnaa
