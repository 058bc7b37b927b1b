/-
  The closed facts on the whole program that every row of this seat wants. The head line of the translation is long: it is taken apart word by word.
-/
import Derived.Test.YtoipadeeochbnaaRows
import Derived.KernelRfl
import GoSem.ClaimWrapper
import GoSem.ClaimJoined
import GoSem.ClaimOpenFrom
import Derived.JoinedOf
namespace Go.Proofs.Ytoipadeeochbnaa.Head
open Go
def sp : Char := Char.ofNat 32
theorem ws_cons (c : Char) (h : c ≠ sp) (r : List Char) : wordsSigns (c :: r) = (match wordsSigns r with | w :: ws => (c :: w) :: ws | [] => [[c]]) := by
  conv => lhs; unfold wordsSigns
  split
  · rename_i h'; cases h'
  · rename_i h'; injection h' with h1 h2; exact absurd h1 h
  · rename_i h'; injection h' with h1 h2; subst h1; subst h2; rfl
theorem ws_sp (r : List Char) : wordsSigns (sp :: r) = [] :: wordsSigns r := by
  show wordsSigns (Char.ofNat 32 :: r) = _
  rw [wordsSigns]
theorem ws_app : ∀ (w r : List Char), (∀ c ∈ w, c ≠ sp) → wordsSigns (w ++ sp :: r) = w :: wordsSigns r
  | [], r, _ => ws_sp r
  | c :: w, r, h => by
    rw [List.cons_append, ws_cons c (h c (by simp)), ws_app w r (fun d hd => h d (by simp [hd]))]
def H1 : List Char := [104, 97, 114, 110, 101, 115, 115].map Char.ofNat
def H2 : List Char := [48, 97, 50, 56, 98, 98, 53, 54, 53, 55, 99, 97, 102, 54, 52, 56, 49, 56, 100, 97, 99, 99, 49, 49, 102, 102, 53, 52, 48, 51, 101, 55, 48, 55, 99, 98, 101, 101, 101, 52, 101, 97, 99, 57, 55, 100, 52, 97, 49, 48, 57, 55, 98, 102, 101, 100, 100, 101, 51, 52, 100, 48, 54, 51].map Char.ofNat
def H3 : List Char := [99, 117, 116].map Char.ofNat
def HR : List Char := [97, 116, 32, 99, 121, 97, 110, 111, 116, 121, 112, 101, 47, 99, 121, 97, 110, 111, 116, 121, 112, 101, 108, 97, 119, 48, 51, 46, 83, 101, 99, 79, 112, 101, 110, 115, 32, 99, 121, 97, 110, 111, 116, 121, 112, 101, 47, 99, 121, 97, 110, 111, 116, 121, 112, 101, 108, 97, 119, 48, 52, 46, 66, 117, 102, 69, 100, 103, 101, 115, 32, 99, 121, 97, 110, 111, 116, 121, 112, 101, 47, 99, 121, 97, 110, 111, 116, 121, 112, 101, 108, 97, 119, 49, 52, 46, 83, 108, 111, 116, 87, 111, 114, 115, 116, 32, 99, 121, 97, 110, 111, 116, 121, 112, 101, 47, 99, 121, 97, 110, 111, 116, 121, 112, 101, 108, 97, 119, 49, 52, 46, 83, 108, 111, 116, 82, 101, 102, 117, 115, 101, 115, 32, 99, 121, 97, 110, 111, 116, 121, 112, 101, 47, 99, 121, 97, 110, 111, 116, 121, 112, 101, 108, 97, 119, 49, 52, 46, 83, 108, 111, 116, 80, 97, 114, 116, 115, 32, 99, 121, 97, 110, 111, 116, 121, 112, 101, 47, 99, 121, 97, 110, 111, 116, 121, 112, 101, 108, 97, 119, 49, 52, 46, 83, 108, 111, 116, 84, 101, 108, 108, 115, 32, 99, 121, 97, 110, 111, 116, 121, 112, 101, 47, 99, 121, 97, 110, 111, 116, 121, 112, 101, 108, 97, 119, 49, 52, 46, 83, 108, 111, 116, 83, 117, 109, 115, 32, 99, 121, 97, 110, 111, 116, 121, 112, 101, 47, 99, 121, 97, 110, 111, 116, 121, 112, 101, 108, 97, 119, 48, 52, 46, 66, 117, 102, 65, 112, 97, 114, 116, 32, 99, 121, 97, 110, 111, 116, 121, 112, 101, 47, 99, 121, 97, 110, 111, 116, 121, 112, 101, 108, 97, 119, 48, 52, 46, 66, 117, 102, 78, 101, 119, 32, 99, 121, 97, 110, 111, 116, 121, 112, 101, 47, 99, 121, 97, 110, 111, 116, 121, 112, 101, 108, 97, 119, 48, 52, 46, 66, 117, 102, 68, 111, 101, 115, 32, 99, 121, 97, 110, 111, 116, 121, 112, 101, 47, 99, 121, 97, 110, 111, 116, 121, 112, 101, 108, 97, 119, 48, 53, 46, 83, 99, 97, 110, 76, 111, 111, 107, 115, 32, 99, 121, 97, 110, 111, 116, 121, 112, 101, 47, 99, 121, 97, 110, 111, 116, 121, 112, 101, 108, 97, 119, 48, 53, 46, 83, 99, 97, 110, 80, 108, 97, 99, 101, 115, 32, 99, 121, 97, 110, 111, 116, 121, 112, 101, 47, 99, 121, 97, 110, 111, 116, 121, 112, 101, 108, 97, 119, 48, 53, 46, 83, 99, 97, 110, 83, 116, 111, 114, 101, 115, 32, 99, 121, 97, 110, 111, 116, 121, 112, 101, 47, 99, 121, 97, 110, 111, 116, 121, 112, 101, 108, 97, 119, 48, 52, 46, 66, 117, 102, 83, 101, 101, 110, 32, 99, 121, 97, 110, 111, 116, 121, 112, 101, 47, 99, 121, 97, 110, 111, 116, 121, 112, 101, 108, 97, 119, 48, 53, 46, 83, 99, 97, 110, 68, 105, 118, 105, 100, 101, 115, 32, 99, 121, 97, 110, 111, 116, 121, 112, 101, 47, 99, 121, 97, 110, 111, 116, 121, 112, 101, 108, 97, 119, 48, 53, 46, 83, 99, 97, 110, 87, 105, 110, 100, 111, 119, 115, 32, 99, 121, 97, 110, 111, 116, 121, 112, 101, 47, 99, 121, 97, 110, 111, 116, 121, 112, 101, 108, 97, 119, 48, 53, 46, 83, 99, 97, 110, 66, 97, 99, 107, 32, 99, 121, 97, 110, 111, 116, 121, 112, 101, 47, 99, 121, 97, 110, 111, 116, 121, 112, 101, 108, 97, 119, 48, 55, 46, 80, 108, 97, 110, 101, 70, 108, 97, 116, 32, 99, 121, 97, 110, 111, 116, 121, 112, 101, 47, 99, 121, 97, 110, 111, 116, 121, 112, 101, 108, 97, 119, 48, 55, 46, 80, 108, 97, 110, 101, 67, 111, 117, 110, 116, 115, 32, 99, 121, 97, 110, 111, 116, 121, 112, 101, 47, 99, 121, 97, 110, 111, 116, 121, 112, 101, 108, 97, 119, 48, 55, 46, 80, 108, 97, 110, 101, 69, 100, 103, 101, 115, 32, 99, 121, 97, 110, 111, 116, 121, 112, 101, 47, 99, 121, 97, 110, 111, 116, 121, 112, 101, 108, 97, 119, 48, 53, 46, 83, 99, 97, 110, 83, 97, 109, 101, 32, 99, 121, 97, 110, 111, 116, 121, 112, 101, 47, 99, 121, 97, 110, 111, 116, 121, 112, 101, 108, 97, 119, 48, 55, 46, 80, 108, 97, 110, 101, 74, 111, 105, 110, 115, 32, 99, 121, 97, 110, 111, 116, 121, 112, 101, 47, 99, 121, 97, 110, 111, 116, 121, 112, 101, 108, 97, 119, 48, 55, 46, 80, 108, 97, 110, 101, 83, 112, 108, 105, 116, 115].map Char.ofNat
def HL : List Char := H1 ++ sp :: (H2 ++ sp :: (H3 ++ sp :: HR))
set_option maxRecDepth 100000 in
theorem init_eq : Try.prog.initOrder = String.ofList HL := by kernel_rfl
theorem ws_eq : behindMainWord (wordsSigns Try.prog.initOrder.toList) = H3 :: wordsSigns HR := by
  rw [init_eq, String.toList_ofList, HL, ws_app H1 _ (by decide), ws_app H2 _ (by decide), ws_app H3 _ (by decide)]
  generalize wordsSigns HR = r
  kernel_rfl
theorem make_of (P : Program) (r : List (List Char)) (h : behindMainWord (wordsSigns P.initOrder.toList) = "cut".toList :: r) : P.make = some .cut := by
  unfold Program.make
  rw [h]
  rfl
theorem headLifts_of (P : Program) (r : List (List Char)) (h : behindMainWord (wordsSigns P.initOrder.toList) = "cut".toList :: r) : P.headLifts = [] := by
  unfold Program.headLifts
  rw [h]
  rfl
theorem lift_of (P : Program) (r : List (List Char)) (h : behindMainWord (wordsSigns P.initOrder.toList) = "cut".toList :: r) : P.liftsFinal = false := by
  unfold Program.liftsFinal
  rw [headLifts_of P r h, h]
  rfl
theorem may_of (P : Program) (r : List (List Char)) (h : behindMainWord (wordsSigns P.initOrder.toList) = "cut".toList :: r) (h1 : P.laysLater = false) (h2 : P.bearsReflect = false) (h3 : P.doorFits [] = true) : P.mayEnter = true := by
  unfold Program.mayEnter
  rw [h]
  have e : stripLifts liftWords ("cut".toList :: r) = ([], "cut".toList :: r) := rfl
  simp only [e, h1, h2, h3]
  simp
theorem ws_eq2 : behindMainWord (wordsSigns Try.prog.initOrder.toList) = "cut".toList :: wordsSigns HR := by
  rw [ws_eq]
  have : H3 = "cut".toList := by decide
  rw [this]
theorem f_later : Try.prog.laysLater = false := by kernel_rfl
theorem f_refl : Try.prog.bearsReflect = false := by kernel_rfl
theorem f_door : Try.prog.doorFits [] = true := by kernel_rfl
theorem f_may : Try.prog.mayEnter = true := may_of _ _ ws_eq2 f_later f_refl f_door
theorem f_make : Try.prog.make = some .cut := make_of _ _ ws_eq2
theorem f_lift : Try.prog.liftsFinal = false := lift_of _ _ ws_eq2
theorem f_laid : laidOutB Try.prog = true := by kernel_rfl
theorem f_maps : mapsRowed Try.prog = true := by kernel_rfl
theorem f_stops : (Try.prog.stops == []) = true := by kernel_rfl
theorem f_knobs : (Try.prog.stopKnobs == []) = true := by kernel_rfl
theorem f_keys : Try.prog.plainKeys = true := by kernel_rfl
theorem f_heard : Try.prog.stopsHeard = true := by kernel_rfl
theorem closed_of {P : Program} {f : FuncId} {fn : Func} {s : ChangeSpec} {c : OpenClaim} (h1 : c.wf (OpenSpec.ofChange s) = true) (h2 : laidOutB P = true) (h3 : mapsRowed P = true) (h4 : fn.params.all (P.readableRec ·) = true) (h5 : namedTie P c.named s.vars = true) (h6 : (c.stops == []) = true) (h7 : (P.stops == []) = true) (h8 : (c.knobs == []) = true) (h9 : (P.stopKnobs == []) = true) (h10 : (c.inPlace == P.inPlace f) = true) (h11 : (c.unfollowed == P.unfollowed f) = true) (h12 : (c.recurses == P.recurses f) = true) (h13 : (c.named == P.varsNamed f) = true) (h14 : (c.maps == (fn.params.toList ++ s.plain.varTypes P).any (P.mapsRec ·)) = true) (h15 : (c.ifaces == (fn.params.toList ++ s.plain.varTypes P).any (P.ifacesRec ·)) = true) (h16 : (c.mapsOut == P.mapsAmong fn.resultTypes.toList) = true) (h17 : (c.loops == (fn.params.toList ++ s.plain.varTypes P).any (P.loopsFrom ·)) = true) (h18 : (c.wideKeys == (fn.params.toList ++ s.plain.varTypes P ++ fn.resultTypes.toList).any (P.wideKeysFrom ·)) = true) (h19 : s.vars.all (P.varReadable ·) = true) (h20 : fn.resultTypes.all (fun t => P.readableRec t && decide (t < P.types.size)) = true) (h21 : (c.ifacesOut == fn.resultTypes.toList.any (P.ifacesRec ·)) = true) (h22 : (c.loopsOut == fn.resultTypes.toList.any (P.loopsFrom ·)) = true) (h23 : (c.plainKeys == P.plainKeys) = true) (h24 : c.shortTexts.isNone = true) (h25 : P.stopsHeard = true) (h26 : P.mayEnter = true) (h27 : (c.lifted == P.liftsFinal) = true) (h28 : (P.make == some c.make) = true) (h29 : (c.kinds == (if c.domain.isEmpty then [] else fn.params.toList.map fun t => match P.underlying t with | some (.int k) => some k | _ => none)) = true) (h30 : (c.pinned == c.pinnedBy) = true) (h31 : (c.veiled == (fn.params.toList ++ s.plain.varTypes P ++ fn.resultTypes.toList).any (P.veiledRec ·)) = true) (h32 : c.veiledFits P fn.params.toList (fn.params.toList ++ s.plain.varTypes P ++ fn.resultTypes.toList) = true) : joinedFacts P f fn s c = true := by
  unfold joinedFacts
  simp only [Bool.and_eq_true]
  exact ⟨⟨⟨⟨⟨⟨⟨⟨⟨⟨⟨⟨⟨⟨⟨⟨⟨⟨⟨⟨⟨⟨⟨⟨⟨⟨⟨⟨⟨⟨⟨h1, h2⟩, h3⟩, h4⟩, h5⟩, h6⟩, h7⟩, h8⟩, h9⟩, h10⟩, h11⟩, h12⟩, h13⟩, h14⟩, h15⟩, h16⟩, h17⟩, h18⟩, h19⟩, h20⟩, h21⟩, h22⟩, h23⟩, h24⟩, h25⟩, h26⟩, h27⟩, h28⟩, h29⟩, h30⟩, h31⟩, h32⟩
theorem lift_row (c : OpenClaim) (h : c.lifted = false) : (c.lifted == Try.prog.liftsFinal) = true := by rw [f_lift, h]; rfl
theorem make_row (c : OpenClaim) (h : c.make = .cut) : (Try.prog.make == some c.make) = true := by rw [f_make, h]; rfl
theorem keys_row (c : OpenClaim) (h : c.plainKeys = true) : (c.plainKeys == Try.prog.plainKeys) = true := by rw [f_keys, h]; rfl
end Go.Proofs.Ytoipadeeochbnaa.Head
