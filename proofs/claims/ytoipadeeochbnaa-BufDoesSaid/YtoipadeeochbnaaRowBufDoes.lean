/-
  'BufDoes' returns true for every input; its arguments read behind the call as they read before. No condition.
-/
import Derived.Test.YtoipadeeochbnaaRows
import Derived.WalkKit
import Derived.ProofKit
import Derived.OpenShut
import Derived.Test.YtoipadeeochbnaaHead
import Derived.Test.YtoipadeeochbnaaArgs
import Derived.Test.YtoipadeeochbnaaLawDoes
namespace Go.Proofs.Ytoipadeeochbnaa.bufDoes
open Go.ChangeShapes Go.WideShapes Go.ChangeAt Go.RowKit
set_option linter.unusedVariables false

theorem own : ownKnob Try.prog.godebug = none := by kernel_rfl

set_option maxRecDepth 100000 in
theorem lifted (os : Os) (started : os.Started) (H : Type) (enc : TypeId × Value → H) :
    ReturnsInHanded {} Try.checked os 12 .any (Rows.bufDoesSpec.pre6 enc Try.prog Try.f12 Rows.bufDoesRow.domain false) (Rows.bufDoesSpec.post enc Try.prog Try.f12 false true false false) := by
  refine returnsInHanded_of_change (C := Try.checked) own started (by kernel_rfl) Try.func12
    (ChangeSpec.witness6 (enc := enc) (C := Try.checked) false ⟨#[], #[.slice none 0 0, .slice none 0 0], []⟩ 8 (by kernel_rfl) (by kernel_rfl) (by kernel_rfl) (by kernel_rfl)) ?_
  intro W base args ds gs before hval0 hW hcnd _
  have hval : ∀ (j : Nat) t v, Try.f12.params[j]? = some t → args[j]? = some v → Value.okWide Try.prog W .any base t v := hval0
  have hW' := hW
  obtain ⟨p, q, hA0, hV, rfl, hfz, hnd⟩ := hW
  have hA : DataW.TrodAll enc Try.prog W 0 (fun _ => true) true Try.f12.params.toList args.toList ds p := hA0
  rw [Try.params12] at hA hval
  obtain ⟨v0, vs0, d0, ds0, p0, q0, hargs, rfl, rfl, h0, r0⟩ := trodAll_cons hA
  obtain ⟨v1, vs1, d1, ds1, p1, q1, rfl, rfl, rfl, h1, r1⟩ := trodAll_cons r0
  obtain ⟨rfl, rfl, rfl⟩ := trodAll_nil r1
  obtain rfl : args = #[v0, v1] := by cases args; simp_all
  have hV' := hV
  obtain ⟨rfl, rfl⟩ := trodVars_none hV'
  obtain ⟨a0, c0, z0, rfl, b0, w0, m0, n0⟩ := open_argInts Try.underlying63 Try.underlying3 (by kernel_rfl) (hval 0 63 v0 rfl rfl) h0
  obtain ⟨a1, n1, c1, rfl, b1, m1⟩ := open_argDeeds Try.underlying80 Try.underlying86 (by kernel_rfl) (by kernel_rfl) Try.underlying4 Try.underlying3 Try.underlying3 (hval 1 80 v1 rfl rfl) h1
  clear hA0 hval0
  refine (BufDoes_walk a0 c0 z0 n0 a1 n1 c1 m1 W b0 b1).mono fun e W' ⟨he, hg⟩ => ?_
  subst he
  exact ⟨_, rfl, post_of_true Head.f_laid (by kernel_rfl) rfl hW' rfl (tb := 4) rfl Try.underlying4 hg⟩

theorem over : Rows.bufDoesRow.holds Try.pinned (OpenSpec.ofChange Rows.bufDoesSpec) :=
  OpenClaim.holds_of_wide 12 Try.f12 rfl rfl rfl rfl rfl rfl rfl ⟨rfl, rfl, rfl, rfl, rfl⟩ rfl rfl rfl rfl rfl (by kernel_rfl) Try.func12 (Head.closed_of (by as_aux_lemma => kernel_rfl) Head.f_laid Head.f_maps (by as_aux_lemma => kernel_rfl) (by as_aux_lemma => kernel_rfl) (by as_aux_lemma => kernel_rfl) Head.f_stops (by as_aux_lemma => kernel_rfl) Head.f_knobs (by as_aux_lemma => kernel_rfl) (by as_aux_lemma => kernel_rfl) (by as_aux_lemma => kernel_rfl) (by as_aux_lemma => kernel_rfl) (by as_aux_lemma => kernel_rfl) (by as_aux_lemma => kernel_rfl) (by as_aux_lemma => kernel_rfl) (by as_aux_lemma => kernel_rfl) (by as_aux_lemma => kernel_rfl) (by as_aux_lemma => kernel_rfl) (by as_aux_lemma => kernel_rfl) (by as_aux_lemma => kernel_rfl) (by as_aux_lemma => kernel_rfl) (Head.keys_row _ rfl) (by as_aux_lemma => kernel_rfl) Head.f_heard Head.f_may (Head.lift_row _ rfl) (Head.make_row _ rfl) (by as_aux_lemma => kernel_rfl) (by as_aux_lemma => kernel_rfl) (by as_aux_lemma => kernel_rfl) (by as_aux_lemma => kernel_rfl))
    (of_decide_eq_true (by kernel_rfl)) (by unfold Func.isWrapper; first | (rw [if_pos (by decide +kernel)]; kernel_rfl) | (rw [if_neg (by decide +kernel)]; exact ⟨rfl, rfl⟩))
    (fun os started H enc _ => lifted os started H enc)

theorem proved : Rows.BufDoesSaid :=
  over
#print axioms proved
end Go.Proofs.Ytoipadeeochbnaa.bufDoes
