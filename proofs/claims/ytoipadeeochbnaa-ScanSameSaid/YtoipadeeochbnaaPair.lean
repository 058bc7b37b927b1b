import Derived.Test.YtoipadeeochbnaaScan9
import Derived.Test.YtoipadeeochbnaaLawBack
import Derived.Test.YtoipadeeochbnaaOfB5
import Derived.Test.YtoipadeeochbnaaArgs3
import Derived.Test.YtoipadeeochbnaaLawSeen
namespace Go.Proofs.Ytoipadeeochbnaa
open Go.RowKit Mix
set_option linter.unusedVariables false
/-- Two buffers, apart. -/
structure Pr (w : World) (n a b ra rb : Nat) (xs ys : List Int) (es fs : List (Int × Int)) (F G : List Nat) (W : World) : Prop where
  A : Bf W a (some ra) xs es F
  B : Bf W b (some rb) ys fs G
  la : xs.length = n
  lb : ys.length = n
  ia : ∀ x ∈ xs, In64 x
  ib : ∀ x ∈ ys, In64 x
  ap : ∀ x ∈ F, x ∉ G
  gF : ∀ x ∈ F, w.heap.size ≤ x
  gG : ∀ x ∈ G, w.heap.size ≤ x
  E : Ext w W
section
variable {w W W' : World} {n a b ra rb : Nat} {xs ys xs' ys' : List Int} {es fs es' fs' : List (Int × Int)} {F G : List Nat} {v : Value} {e : Ending}
theorem Pr.ext (h : Pr w n a b ra rb xs ys es fs F G W) (k : Ext W W') : Pr w n a b ra rb xs ys es fs F G W' :=
  ⟨h.A.ext k, h.B.ext k, h.la, h.lb, h.ia, h.ib, h.ap, h.gF, h.gG, h.E.trans k⟩
theorem Pr.stepA (h : Pr w n a b ra rb xs ys es fs F G W) (t : BTold v a (some ra) xs' es' F W e W') (l : xs'.length = n) (i : ∀ x ∈ xs', In64 x) : e = .returned v ∧ ∃ F', Pr w n a b ra rb xs' ys es' fs F' G W' := by
  obtain ⟨rfl, F', hA, hT, hF⟩ := t
  exact ⟨rfl, F', hA, h.B.turn hT (apart_symm h.ap), l, h.lb, i, h.ib, apart_step hF h.ap h.B.lt, ge_step hF h.gF h.E.size, h.gG, Mix.Ext.trans' h.E hT h.gF⟩
theorem Pr.stepB (h : Pr w n a b ra rb xs ys es fs F G W) (t : BTold v b (some rb) ys' fs' G W e W') (l : ys'.length = n) (i : ∀ x ∈ ys', In64 x) : e = .returned v ∧ ∃ G', Pr w n a b ra rb xs ys' es fs' F G' W' := by
  obtain ⟨rfl, G', hB, hT, hG⟩ := t
  exact ⟨rfl, G', h.A.turn hT h.ap, hB, h.la, l, h.ia, i, apart_symm (apart_step hG (apart_symm h.ap) h.A.lt), h.gF, ge_step hG h.gG h.E.size, Mix.Ext.trans' h.E hT h.gG⟩
end
end Go.Proofs.Ytoipadeeochbnaa
