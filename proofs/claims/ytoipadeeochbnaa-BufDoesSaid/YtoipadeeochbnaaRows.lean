/-
  No cell of these rows narrows 'for every input' (looked for: loops, veiled, ifaces, maps, wideKeys, modest, calm, conditions, laid).
  DERIVED. THE GIVEN ROWS OF THIS SEAT. 23 by the template 'for every input the law returns true; each argument reads behind the call as it read before'; 0 by the template 'total and deterministic' (their statements: YtoipadeeochbnaaTotals.lean).
  GIVEN WITH THE SEED: the statements are not yours to turn. If you find one false, say at which input.
  Laid BY PROGRAM, IN A SANDBOX (cutbox-rows.mjs): the forced cells as the released guide's own fill.sh prints them over the translation 170918ba69706e6c… (all of the seat's roots in one cut). By AI agents, Wed Nov 11 2026. No macro, syntax, notation, axiom, sorry.
-/
import Derived.Test.YtoipadeeochbnaaChecked
import GoSem.Claim
import GoSem.ClaimJoined
import GoSem.ClaimMapViews
import Derived.JoinedTies
import Derived.KernelRfl
namespace Go.Proofs.Ytoipadeeochbnaa
/- THE CELL 'sum', in the pinned program and in every row, IS THE sha256 OF THE DUMP (.gsa) THAT YtoipadeeochbnaaProg.lean LOADS. Nothing in Lean hashes anything: it is a label: what it is worth is what the hold of that sum in a sandbox is worth. -/
noncomputable def Try.pinned : Pinned := { name := "ytoipadeeochbnaa", sum := "170918ba69706e6c5ccc00713d6a5d3818da6f7cf29c2928b5f8d4eabdcea890", checked := Try.checked }
namespace Rows
def none {H : Type} : Left H := { results := [], args := [] }

/-- 'cyanotypelaw03.SecOpens': WHATEVER THE INPUT: true; the input reads as it did. -/
def secOpensSpec : ChangeSpec := { name := "secOpens", fn := fun _ => fun
  | [d1, d2, d3] => { results := [.lit (.bool true)], args := [d1, d2, d3] }
  | _ => none }
def secOpensRow : OpenClaim := { program := "ytoipadeeochbnaa", sum := "170918ba69706e6c5ccc00713d6a5d3818da6f7cf29c2928b5f8d4eabdcea890", func := "cyanotype/cyanotypelaw03.SecOpens", spec := "secOpens", unfollowed := true, recurses := true, apart := false }
def SecOpensSaid : Prop := secOpensRow.holds Try.pinned (OpenSpec.ofChange secOpensSpec)

/-- ITS FALSE NEIGHBOUR: 'it returns false'. Refute it at one input. -/
def secOpensWrong : ChangeSpec := { name := "secOpens", fn := fun _ => fun
  | [d1, d2, d3] => { results := [.lit (.bool false)], args := [d1, d2, d3] }
  | _ => none }
def SecOpensWrongFalsely : Prop := secOpensRow.holds Try.pinned (OpenSpec.ofChange secOpensWrong)

/-- 'cyanotypelaw04.BufEdges': WHATEVER THE INPUT: true; the input reads as it did. -/
def bufEdgesSpec : ChangeSpec := { name := "bufEdges", fn := fun _ => fun
  | [d1, d2, d3] => { results := [.lit (.bool true)], args := [d1, d2, d3] }
  | _ => none }
def bufEdgesRow : OpenClaim := { program := "ytoipadeeochbnaa", sum := "170918ba69706e6c5ccc00713d6a5d3818da6f7cf29c2928b5f8d4eabdcea890", func := "cyanotype/cyanotypelaw04.BufEdges", spec := "bufEdges", unfollowed := true, recurses := true, apart := false }
def BufEdgesSaid : Prop := bufEdgesRow.holds Try.pinned (OpenSpec.ofChange bufEdgesSpec)

/-- ITS FALSE NEIGHBOUR: 'it returns false'. Refute it at one input. -/
def bufEdgesWrong : ChangeSpec := { name := "bufEdges", fn := fun _ => fun
  | [d1, d2, d3] => { results := [.lit (.bool false)], args := [d1, d2, d3] }
  | _ => none }
def BufEdgesWrongFalsely : Prop := bufEdgesRow.holds Try.pinned (OpenSpec.ofChange bufEdgesWrong)

/-- 'cyanotypelaw14.SlotWorst': WHATEVER THE INPUT: true; the input reads as it did. -/
def slotWorstSpec : ChangeSpec := { name := "slotWorst", fn := fun _ => fun
  | [d1, d2, d3] => { results := [.lit (.bool true)], args := [d1, d2, d3] }
  | _ => none }
def slotWorstRow : OpenClaim := { program := "ytoipadeeochbnaa", sum := "170918ba69706e6c5ccc00713d6a5d3818da6f7cf29c2928b5f8d4eabdcea890", func := "cyanotype/cyanotypelaw14.SlotWorst", spec := "slotWorst", unfollowed := true, recurses := true, apart := false }
def SlotWorstSaid : Prop := slotWorstRow.holds Try.pinned (OpenSpec.ofChange slotWorstSpec)

/-- ITS FALSE NEIGHBOUR: 'it returns false'. Refute it at one input. -/
def slotWorstWrong : ChangeSpec := { name := "slotWorst", fn := fun _ => fun
  | [d1, d2, d3] => { results := [.lit (.bool false)], args := [d1, d2, d3] }
  | _ => none }
def SlotWorstWrongFalsely : Prop := slotWorstRow.holds Try.pinned (OpenSpec.ofChange slotWorstWrong)

/-- 'cyanotypelaw14.SlotRefuses': WHATEVER THE INPUT: true; the input reads as it did. -/
def slotRefusesSpec : ChangeSpec := { name := "slotRefuses", fn := fun _ => fun
  | [d1, d2, d3, d4, d5, d6, d7, d8] => { results := [.lit (.bool true)], args := [d1, d2, d3, d4, d5, d6, d7, d8] }
  | _ => none }
def slotRefusesRow : OpenClaim := { program := "ytoipadeeochbnaa", sum := "170918ba69706e6c5ccc00713d6a5d3818da6f7cf29c2928b5f8d4eabdcea890", func := "cyanotype/cyanotypelaw14.SlotRefuses", spec := "slotRefuses", unfollowed := true, recurses := true, apart := false }
def SlotRefusesSaid : Prop := slotRefusesRow.holds Try.pinned (OpenSpec.ofChange slotRefusesSpec)

/-- ITS FALSE NEIGHBOUR: 'it returns false'. Refute it at one input. -/
def slotRefusesWrong : ChangeSpec := { name := "slotRefuses", fn := fun _ => fun
  | [d1, d2, d3, d4, d5, d6, d7, d8] => { results := [.lit (.bool false)], args := [d1, d2, d3, d4, d5, d6, d7, d8] }
  | _ => none }
def SlotRefusesWrongFalsely : Prop := slotRefusesRow.holds Try.pinned (OpenSpec.ofChange slotRefusesWrong)

/-- 'cyanotypelaw14.SlotParts': WHATEVER THE INPUT: true; the input reads as it did. -/
def slotPartsSpec : ChangeSpec := { name := "slotParts", fn := fun _ => fun
  | [d] => { results := [.lit (.bool true)], args := [d] }
  | _ => none }
def slotPartsRow : OpenClaim := { program := "ytoipadeeochbnaa", sum := "170918ba69706e6c5ccc00713d6a5d3818da6f7cf29c2928b5f8d4eabdcea890", func := "cyanotype/cyanotypelaw14.SlotParts", spec := "slotParts", unfollowed := true, recurses := true, apart := false }
def SlotPartsSaid : Prop := slotPartsRow.holds Try.pinned (OpenSpec.ofChange slotPartsSpec)

/-- ITS FALSE NEIGHBOUR: 'it returns false'. Refute it at one input. -/
def slotPartsWrong : ChangeSpec := { name := "slotParts", fn := fun _ => fun
  | [d] => { results := [.lit (.bool false)], args := [d] }
  | _ => none }
def SlotPartsWrongFalsely : Prop := slotPartsRow.holds Try.pinned (OpenSpec.ofChange slotPartsWrong)

/-- 'cyanotypelaw14.SlotTells': WHATEVER THE INPUT: true; the input reads as it did. -/
def slotTellsSpec : ChangeSpec := { name := "slotTells", fn := fun _ => fun
  | [d1, d2, d3, d4, d5, d6, d7, d8, d9, d10] => { results := [.lit (.bool true)], args := [d1, d2, d3, d4, d5, d6, d7, d8, d9, d10] }
  | _ => none }
def slotTellsRow : OpenClaim := { program := "ytoipadeeochbnaa", sum := "170918ba69706e6c5ccc00713d6a5d3818da6f7cf29c2928b5f8d4eabdcea890", func := "cyanotype/cyanotypelaw14.SlotTells", spec := "slotTells", unfollowed := true, recurses := true, apart := false }
def SlotTellsSaid : Prop := slotTellsRow.holds Try.pinned (OpenSpec.ofChange slotTellsSpec)

/-- ITS FALSE NEIGHBOUR: 'it returns false'. Refute it at one input. -/
def slotTellsWrong : ChangeSpec := { name := "slotTells", fn := fun _ => fun
  | [d1, d2, d3, d4, d5, d6, d7, d8, d9, d10] => { results := [.lit (.bool false)], args := [d1, d2, d3, d4, d5, d6, d7, d8, d9, d10] }
  | _ => none }
def SlotTellsWrongFalsely : Prop := slotTellsRow.holds Try.pinned (OpenSpec.ofChange slotTellsWrong)

/-- 'cyanotypelaw14.SlotSums': WHATEVER THE INPUT: true; the input reads as it did. -/
def slotSumsSpec : ChangeSpec := { name := "slotSums", fn := fun _ => fun
  | [d1, d2, d3, d4, d5, d6] => { results := [.lit (.bool true)], args := [d1, d2, d3, d4, d5, d6] }
  | _ => none }
def slotSumsRow : OpenClaim := { program := "ytoipadeeochbnaa", sum := "170918ba69706e6c5ccc00713d6a5d3818da6f7cf29c2928b5f8d4eabdcea890", func := "cyanotype/cyanotypelaw14.SlotSums", spec := "slotSums", unfollowed := true, recurses := true, apart := false }
def SlotSumsSaid : Prop := slotSumsRow.holds Try.pinned (OpenSpec.ofChange slotSumsSpec)

/-- ITS FALSE NEIGHBOUR: 'it returns false'. Refute it at one input. -/
def slotSumsWrong : ChangeSpec := { name := "slotSums", fn := fun _ => fun
  | [d1, d2, d3, d4, d5, d6] => { results := [.lit (.bool false)], args := [d1, d2, d3, d4, d5, d6] }
  | _ => none }
def SlotSumsWrongFalsely : Prop := slotSumsRow.holds Try.pinned (OpenSpec.ofChange slotSumsWrong)

/-- 'cyanotypelaw04.BufApart': WHATEVER THE INPUT: true; the input reads as it did. -/
def bufApartSpec : ChangeSpec := { name := "bufApart", fn := fun _ => fun
  | [d1, d2, d3] => { results := [.lit (.bool true)], args := [d1, d2, d3] }
  | _ => none }
def bufApartRow : OpenClaim := { program := "ytoipadeeochbnaa", sum := "170918ba69706e6c5ccc00713d6a5d3818da6f7cf29c2928b5f8d4eabdcea890", func := "cyanotype/cyanotypelaw04.BufApart", spec := "bufApart", unfollowed := true, recurses := true, apart := false }
def BufApartSaid : Prop := bufApartRow.holds Try.pinned (OpenSpec.ofChange bufApartSpec)

/-- ITS FALSE NEIGHBOUR: 'it returns false'. Refute it at one input. -/
def bufApartWrong : ChangeSpec := { name := "bufApart", fn := fun _ => fun
  | [d1, d2, d3] => { results := [.lit (.bool false)], args := [d1, d2, d3] }
  | _ => none }
def BufApartWrongFalsely : Prop := bufApartRow.holds Try.pinned (OpenSpec.ofChange bufApartWrong)

/-- 'cyanotypelaw04.BufNew': WHATEVER THE INPUT: true; the input reads as it did. -/
def bufNewSpec : ChangeSpec := { name := "bufNew", fn := fun _ => fun
  | [d1, d2] => { results := [.lit (.bool true)], args := [d1, d2] }
  | _ => none }
def bufNewRow : OpenClaim := { program := "ytoipadeeochbnaa", sum := "170918ba69706e6c5ccc00713d6a5d3818da6f7cf29c2928b5f8d4eabdcea890", func := "cyanotype/cyanotypelaw04.BufNew", spec := "bufNew", unfollowed := true, recurses := true, apart := false }
def BufNewSaid : Prop := bufNewRow.holds Try.pinned (OpenSpec.ofChange bufNewSpec)

/-- ITS FALSE NEIGHBOUR: 'it returns false'. Refute it at one input. -/
def bufNewWrong : ChangeSpec := { name := "bufNew", fn := fun _ => fun
  | [d1, d2] => { results := [.lit (.bool false)], args := [d1, d2] }
  | _ => none }
def BufNewWrongFalsely : Prop := bufNewRow.holds Try.pinned (OpenSpec.ofChange bufNewWrong)

/-- 'cyanotypelaw04.BufDoes': WHATEVER THE INPUT: true; the input reads as it did. -/
def bufDoesSpec : ChangeSpec := { name := "bufDoes", fn := fun _ => fun
  | [d1, d2] => { results := [.lit (.bool true)], args := [d1, d2] }
  | _ => none }
def bufDoesRow : OpenClaim := { program := "ytoipadeeochbnaa", sum := "170918ba69706e6c5ccc00713d6a5d3818da6f7cf29c2928b5f8d4eabdcea890", func := "cyanotype/cyanotypelaw04.BufDoes", spec := "bufDoes", unfollowed := true, recurses := true, apart := false }
def BufDoesSaid : Prop := bufDoesRow.holds Try.pinned (OpenSpec.ofChange bufDoesSpec)

/-- ITS FALSE NEIGHBOUR: 'it returns false'. Refute it at one input. -/
def bufDoesWrong : ChangeSpec := { name := "bufDoes", fn := fun _ => fun
  | [d1, d2] => { results := [.lit (.bool false)], args := [d1, d2] }
  | _ => none }
def BufDoesWrongFalsely : Prop := bufDoesRow.holds Try.pinned (OpenSpec.ofChange bufDoesWrong)

/-- 'cyanotypelaw05.ScanLooks': WHATEVER THE INPUT: true; the input reads as it did. -/
def scanLooksSpec : ChangeSpec := { name := "scanLooks", fn := fun _ => fun
  | [d1, d2, d3] => { results := [.lit (.bool true)], args := [d1, d2, d3] }
  | _ => none }
def scanLooksRow : OpenClaim := { program := "ytoipadeeochbnaa", sum := "170918ba69706e6c5ccc00713d6a5d3818da6f7cf29c2928b5f8d4eabdcea890", func := "cyanotype/cyanotypelaw05.ScanLooks", spec := "scanLooks", unfollowed := true, recurses := true, apart := false }
def ScanLooksSaid : Prop := scanLooksRow.holds Try.pinned (OpenSpec.ofChange scanLooksSpec)

/-- ITS FALSE NEIGHBOUR: 'it returns false'. Refute it at one input. -/
def scanLooksWrong : ChangeSpec := { name := "scanLooks", fn := fun _ => fun
  | [d1, d2, d3] => { results := [.lit (.bool false)], args := [d1, d2, d3] }
  | _ => none }
def ScanLooksWrongFalsely : Prop := scanLooksRow.holds Try.pinned (OpenSpec.ofChange scanLooksWrong)

/-- 'cyanotypelaw05.ScanPlaces': WHATEVER THE INPUT: true; the input reads as it did. -/
def scanPlacesSpec : ChangeSpec := { name := "scanPlaces", fn := fun _ => fun
  | [d1, d2, d3, d4, d5, d6] => { results := [.lit (.bool true)], args := [d1, d2, d3, d4, d5, d6] }
  | _ => none }
def scanPlacesRow : OpenClaim := { program := "ytoipadeeochbnaa", sum := "170918ba69706e6c5ccc00713d6a5d3818da6f7cf29c2928b5f8d4eabdcea890", func := "cyanotype/cyanotypelaw05.ScanPlaces", spec := "scanPlaces", unfollowed := true, recurses := true, apart := false }
def ScanPlacesSaid : Prop := scanPlacesRow.holds Try.pinned (OpenSpec.ofChange scanPlacesSpec)

/-- ITS FALSE NEIGHBOUR: 'it returns false'. Refute it at one input. -/
def scanPlacesWrong : ChangeSpec := { name := "scanPlaces", fn := fun _ => fun
  | [d1, d2, d3, d4, d5, d6] => { results := [.lit (.bool false)], args := [d1, d2, d3, d4, d5, d6] }
  | _ => none }
def ScanPlacesWrongFalsely : Prop := scanPlacesRow.holds Try.pinned (OpenSpec.ofChange scanPlacesWrong)

/-- 'cyanotypelaw05.ScanStores': WHATEVER THE INPUT: true; the input reads as it did. -/
def scanStoresSpec : ChangeSpec := { name := "scanStores", fn := fun _ => fun
  | [d1, d2, d3] => { results := [.lit (.bool true)], args := [d1, d2, d3] }
  | _ => none }
def scanStoresRow : OpenClaim := { program := "ytoipadeeochbnaa", sum := "170918ba69706e6c5ccc00713d6a5d3818da6f7cf29c2928b5f8d4eabdcea890", func := "cyanotype/cyanotypelaw05.ScanStores", spec := "scanStores", unfollowed := true, recurses := true, apart := false }
def ScanStoresSaid : Prop := scanStoresRow.holds Try.pinned (OpenSpec.ofChange scanStoresSpec)

/-- ITS FALSE NEIGHBOUR: 'it returns false'. Refute it at one input. -/
def scanStoresWrong : ChangeSpec := { name := "scanStores", fn := fun _ => fun
  | [d1, d2, d3] => { results := [.lit (.bool false)], args := [d1, d2, d3] }
  | _ => none }
def ScanStoresWrongFalsely : Prop := scanStoresRow.holds Try.pinned (OpenSpec.ofChange scanStoresWrong)

/-- 'cyanotypelaw04.BufSeen': WHATEVER THE INPUT: true; the input reads as it did. -/
def bufSeenSpec : ChangeSpec := { name := "bufSeen", fn := fun _ => fun
  | [d1, d2, d3] => { results := [.lit (.bool true)], args := [d1, d2, d3] }
  | _ => none }
def bufSeenRow : OpenClaim := { program := "ytoipadeeochbnaa", sum := "170918ba69706e6c5ccc00713d6a5d3818da6f7cf29c2928b5f8d4eabdcea890", func := "cyanotype/cyanotypelaw04.BufSeen", spec := "bufSeen", unfollowed := true, recurses := true, apart := false }
def BufSeenSaid : Prop := bufSeenRow.holds Try.pinned (OpenSpec.ofChange bufSeenSpec)

/-- ITS FALSE NEIGHBOUR: 'it returns false'. Refute it at one input. -/
def bufSeenWrong : ChangeSpec := { name := "bufSeen", fn := fun _ => fun
  | [d1, d2, d3] => { results := [.lit (.bool false)], args := [d1, d2, d3] }
  | _ => none }
def BufSeenWrongFalsely : Prop := bufSeenRow.holds Try.pinned (OpenSpec.ofChange bufSeenWrong)

/-- 'cyanotypelaw05.ScanDivides': WHATEVER THE INPUT: true; the input reads as it did. -/
def scanDividesSpec : ChangeSpec := { name := "scanDivides", fn := fun _ => fun
  | [d1, d2, d3, d4] => { results := [.lit (.bool true)], args := [d1, d2, d3, d4] }
  | _ => none }
def scanDividesRow : OpenClaim := { program := "ytoipadeeochbnaa", sum := "170918ba69706e6c5ccc00713d6a5d3818da6f7cf29c2928b5f8d4eabdcea890", func := "cyanotype/cyanotypelaw05.ScanDivides", spec := "scanDivides", unfollowed := true, recurses := true, apart := false }
def ScanDividesSaid : Prop := scanDividesRow.holds Try.pinned (OpenSpec.ofChange scanDividesSpec)

/-- ITS FALSE NEIGHBOUR: 'it returns false'. Refute it at one input. -/
def scanDividesWrong : ChangeSpec := { name := "scanDivides", fn := fun _ => fun
  | [d1, d2, d3, d4] => { results := [.lit (.bool false)], args := [d1, d2, d3, d4] }
  | _ => none }
def ScanDividesWrongFalsely : Prop := scanDividesRow.holds Try.pinned (OpenSpec.ofChange scanDividesWrong)

/-- 'cyanotypelaw05.ScanWindows': WHATEVER THE INPUT: true; the input reads as it did. -/
def scanWindowsSpec : ChangeSpec := { name := "scanWindows", fn := fun _ => fun
  | [d1, d2, d3, d4, d5] => { results := [.lit (.bool true)], args := [d1, d2, d3, d4, d5] }
  | _ => none }
def scanWindowsRow : OpenClaim := { program := "ytoipadeeochbnaa", sum := "170918ba69706e6c5ccc00713d6a5d3818da6f7cf29c2928b5f8d4eabdcea890", func := "cyanotype/cyanotypelaw05.ScanWindows", spec := "scanWindows", unfollowed := true, recurses := true, apart := false }
def ScanWindowsSaid : Prop := scanWindowsRow.holds Try.pinned (OpenSpec.ofChange scanWindowsSpec)

/-- ITS FALSE NEIGHBOUR: 'it returns false'. Refute it at one input. -/
def scanWindowsWrong : ChangeSpec := { name := "scanWindows", fn := fun _ => fun
  | [d1, d2, d3, d4, d5] => { results := [.lit (.bool false)], args := [d1, d2, d3, d4, d5] }
  | _ => none }
def ScanWindowsWrongFalsely : Prop := scanWindowsRow.holds Try.pinned (OpenSpec.ofChange scanWindowsWrong)

/-- 'cyanotypelaw05.ScanBack': WHATEVER THE INPUT: true; the input reads as it did. -/
def scanBackSpec : ChangeSpec := { name := "scanBack", fn := fun _ => fun
  | [d1, d2, d3] => { results := [.lit (.bool true)], args := [d1, d2, d3] }
  | _ => none }
def scanBackRow : OpenClaim := { program := "ytoipadeeochbnaa", sum := "170918ba69706e6c5ccc00713d6a5d3818da6f7cf29c2928b5f8d4eabdcea890", func := "cyanotype/cyanotypelaw05.ScanBack", spec := "scanBack", unfollowed := true, recurses := true, apart := false }
def ScanBackSaid : Prop := scanBackRow.holds Try.pinned (OpenSpec.ofChange scanBackSpec)

/-- ITS FALSE NEIGHBOUR: 'it returns false'. Refute it at one input. -/
def scanBackWrong : ChangeSpec := { name := "scanBack", fn := fun _ => fun
  | [d1, d2, d3] => { results := [.lit (.bool false)], args := [d1, d2, d3] }
  | _ => none }
def ScanBackWrongFalsely : Prop := scanBackRow.holds Try.pinned (OpenSpec.ofChange scanBackWrong)

/-- 'cyanotypelaw07.PlaneFlat': WHATEVER THE INPUT: true; the input reads as it did. -/
def planeFlatSpec : ChangeSpec := { name := "planeFlat", fn := fun _ => fun
  | [d1, d2, d3, d4, d5, d6] => { results := [.lit (.bool true)], args := [d1, d2, d3, d4, d5, d6] }
  | _ => none }
def planeFlatRow : OpenClaim := { program := "ytoipadeeochbnaa", sum := "170918ba69706e6c5ccc00713d6a5d3818da6f7cf29c2928b5f8d4eabdcea890", func := "cyanotype/cyanotypelaw07.PlaneFlat", spec := "planeFlat", unfollowed := true, recurses := true, apart := false }
def PlaneFlatSaid : Prop := planeFlatRow.holds Try.pinned (OpenSpec.ofChange planeFlatSpec)

/-- ITS FALSE NEIGHBOUR: 'it returns false'. Refute it at one input. -/
def planeFlatWrong : ChangeSpec := { name := "planeFlat", fn := fun _ => fun
  | [d1, d2, d3, d4, d5, d6] => { results := [.lit (.bool false)], args := [d1, d2, d3, d4, d5, d6] }
  | _ => none }
def PlaneFlatWrongFalsely : Prop := planeFlatRow.holds Try.pinned (OpenSpec.ofChange planeFlatWrong)

/-- 'cyanotypelaw07.PlaneCounts': WHATEVER THE INPUT: true; the input reads as it did. -/
def planeCountsSpec : ChangeSpec := { name := "planeCounts", fn := fun _ => fun
  | [d1, d2, d3, d4] => { results := [.lit (.bool true)], args := [d1, d2, d3, d4] }
  | _ => none }
def planeCountsRow : OpenClaim := { program := "ytoipadeeochbnaa", sum := "170918ba69706e6c5ccc00713d6a5d3818da6f7cf29c2928b5f8d4eabdcea890", func := "cyanotype/cyanotypelaw07.PlaneCounts", spec := "planeCounts", unfollowed := true, recurses := true, apart := false }
def PlaneCountsSaid : Prop := planeCountsRow.holds Try.pinned (OpenSpec.ofChange planeCountsSpec)

/-- ITS FALSE NEIGHBOUR: 'it returns false'. Refute it at one input. -/
def planeCountsWrong : ChangeSpec := { name := "planeCounts", fn := fun _ => fun
  | [d1, d2, d3, d4] => { results := [.lit (.bool false)], args := [d1, d2, d3, d4] }
  | _ => none }
def PlaneCountsWrongFalsely : Prop := planeCountsRow.holds Try.pinned (OpenSpec.ofChange planeCountsWrong)

/-- 'cyanotypelaw07.PlaneEdges': WHATEVER THE INPUT: true; the input reads as it did. -/
def planeEdgesSpec : ChangeSpec := { name := "planeEdges", fn := fun _ => fun
  | [d1, d2, d3, d4] => { results := [.lit (.bool true)], args := [d1, d2, d3, d4] }
  | _ => none }
def planeEdgesRow : OpenClaim := { program := "ytoipadeeochbnaa", sum := "170918ba69706e6c5ccc00713d6a5d3818da6f7cf29c2928b5f8d4eabdcea890", func := "cyanotype/cyanotypelaw07.PlaneEdges", spec := "planeEdges", unfollowed := true, recurses := true, apart := false }
def PlaneEdgesSaid : Prop := planeEdgesRow.holds Try.pinned (OpenSpec.ofChange planeEdgesSpec)

/-- ITS FALSE NEIGHBOUR: 'it returns false'. Refute it at one input. -/
def planeEdgesWrong : ChangeSpec := { name := "planeEdges", fn := fun _ => fun
  | [d1, d2, d3, d4] => { results := [.lit (.bool false)], args := [d1, d2, d3, d4] }
  | _ => none }
def PlaneEdgesWrongFalsely : Prop := planeEdgesRow.holds Try.pinned (OpenSpec.ofChange planeEdgesWrong)

/-- 'cyanotypelaw05.ScanSame': WHATEVER THE INPUT: true; the input reads as it did. -/
def scanSameSpec : ChangeSpec := { name := "scanSame", fn := fun _ => fun
  | [d1, d2, d3, d4, d5, d6, d7] => { results := [.lit (.bool true)], args := [d1, d2, d3, d4, d5, d6, d7] }
  | _ => none }
def scanSameRow : OpenClaim := { program := "ytoipadeeochbnaa", sum := "170918ba69706e6c5ccc00713d6a5d3818da6f7cf29c2928b5f8d4eabdcea890", func := "cyanotype/cyanotypelaw05.ScanSame", spec := "scanSame", unfollowed := true, recurses := true, apart := false }
def ScanSameSaid : Prop := scanSameRow.holds Try.pinned (OpenSpec.ofChange scanSameSpec)

/-- ITS FALSE NEIGHBOUR: 'it returns false'. Refute it at one input. -/
def scanSameWrong : ChangeSpec := { name := "scanSame", fn := fun _ => fun
  | [d1, d2, d3, d4, d5, d6, d7] => { results := [.lit (.bool false)], args := [d1, d2, d3, d4, d5, d6, d7] }
  | _ => none }
def ScanSameWrongFalsely : Prop := scanSameRow.holds Try.pinned (OpenSpec.ofChange scanSameWrong)

/-- 'cyanotypelaw07.PlaneJoins': WHATEVER THE INPUT: true; the input reads as it did. -/
def planeJoinsSpec : ChangeSpec := { name := "planeJoins", fn := fun _ => fun
  | [d1, d2, d3, d4, d5, d6, d7] => { results := [.lit (.bool true)], args := [d1, d2, d3, d4, d5, d6, d7] }
  | _ => none }
def planeJoinsRow : OpenClaim := { program := "ytoipadeeochbnaa", sum := "170918ba69706e6c5ccc00713d6a5d3818da6f7cf29c2928b5f8d4eabdcea890", func := "cyanotype/cyanotypelaw07.PlaneJoins", spec := "planeJoins", unfollowed := true, recurses := true, apart := false }
def PlaneJoinsSaid : Prop := planeJoinsRow.holds Try.pinned (OpenSpec.ofChange planeJoinsSpec)

/-- ITS FALSE NEIGHBOUR: 'it returns false'. Refute it at one input. -/
def planeJoinsWrong : ChangeSpec := { name := "planeJoins", fn := fun _ => fun
  | [d1, d2, d3, d4, d5, d6, d7] => { results := [.lit (.bool false)], args := [d1, d2, d3, d4, d5, d6, d7] }
  | _ => none }
def PlaneJoinsWrongFalsely : Prop := planeJoinsRow.holds Try.pinned (OpenSpec.ofChange planeJoinsWrong)

/-- 'cyanotypelaw07.PlaneSplits': WHATEVER THE INPUT: true; the input reads as it did. -/
def planeSplitsSpec : ChangeSpec := { name := "planeSplits", fn := fun _ => fun
  | [d1, d2, d3, d4, d5, d6] => { results := [.lit (.bool true)], args := [d1, d2, d3, d4, d5, d6] }
  | _ => none }
def planeSplitsRow : OpenClaim := { program := "ytoipadeeochbnaa", sum := "170918ba69706e6c5ccc00713d6a5d3818da6f7cf29c2928b5f8d4eabdcea890", func := "cyanotype/cyanotypelaw07.PlaneSplits", spec := "planeSplits", unfollowed := true, recurses := true, apart := false }
def PlaneSplitsSaid : Prop := planeSplitsRow.holds Try.pinned (OpenSpec.ofChange planeSplitsSpec)

/-- ITS FALSE NEIGHBOUR: 'it returns false'. Refute it at one input. -/
def planeSplitsWrong : ChangeSpec := { name := "planeSplits", fn := fun _ => fun
  | [d1, d2, d3, d4, d5, d6] => { results := [.lit (.bool false)], args := [d1, d2, d3, d4, d5, d6] }
  | _ => none }
def PlaneSplitsWrongFalsely : Prop := planeSplitsRow.holds Try.pinned (OpenSpec.ofChange planeSplitsWrong)

/- THE SECOND FORM. 'bulk': how many values and letters a reading holds, each counted each time it is reached (what is shared counts as often as it is met; a slice's spare places count too). A statement '..UptoSaid' is the law's where the arguments, and the package variables that the reading takes, are together of bulk at most 1048576: NARROWER than '..Said'. Prove '..Said' where nothing that the law and all that it calls make is longer than what came in: it says more and counts as full. Else prove '..UptoSaid'. A law counts once. -/
mutual
def uptoBulk {H : Type} : DataW H → Nat
  | .lit (.string bytes) => bytes.length + 1
  | .lit _ => 1
  | .nil => 1
  | .ptr d => uptoBulk d + 1
  | .slice elems spare => uptoBulkAll elems + uptoBulkAll spare + 1
  | .agg parts => uptoBulkAll parts + 1
  | .iface _ d => uptoBulk d + 1
  | .map entries => uptoBulkEntries entries + 1
  | .held _ => 1
def uptoBulkAll {H : Type} : List (DataW H) → Nat
  | [] => 0
  | d :: r => uptoBulk d + uptoBulkAll r
def uptoBulkEntries {H : Type} : List (Lit × DataW H) → Nat
  | [] => 0
  | x :: r => uptoBulkEntry x + uptoBulkEntries r
def uptoBulkEntry {H : Type} : Lit × DataW H → Nat
  | (.string bytes, d) => bytes.length + uptoBulk d + 1
  | (_, d) => uptoBulk d + 1
 end
def uptoSmall : (H : Type) → List (DataW H) → Bool := fun _ ds => decide (uptoBulkAll ds ≤ 1048576)
def OpenSpec.upto (s : _root_.Go.ChangeSpec) : _root_.Go.OpenSpec := { _root_.Go.OpenSpec.ofChange s with cond := some uptoSmall }

/-- 'cyanotypelaw03.SecOpens', WHERE WHAT IT READS IS OF BULK AT MOST 1048576: true; the input reads as it did. -/
def secOpensUptoRow : OpenClaim := { program := "ytoipadeeochbnaa", sum := "170918ba69706e6c5ccc00713d6a5d3818da6f7cf29c2928b5f8d4eabdcea890", func := "cyanotype/cyanotypelaw03.SecOpens", spec := "secOpens", unfollowed := true, recurses := true, apart := false, narrowed := true }
def SecOpensUptoSaid : Prop := secOpensUptoRow.holds Try.pinned (OpenSpec.upto secOpensSpec)

/-- 'cyanotypelaw04.BufEdges', WHERE WHAT IT READS IS OF BULK AT MOST 1048576: true; the input reads as it did. -/
def bufEdgesUptoRow : OpenClaim := { program := "ytoipadeeochbnaa", sum := "170918ba69706e6c5ccc00713d6a5d3818da6f7cf29c2928b5f8d4eabdcea890", func := "cyanotype/cyanotypelaw04.BufEdges", spec := "bufEdges", unfollowed := true, recurses := true, apart := false, narrowed := true }
def BufEdgesUptoSaid : Prop := bufEdgesUptoRow.holds Try.pinned (OpenSpec.upto bufEdgesSpec)

/-- 'cyanotypelaw14.SlotWorst', WHERE WHAT IT READS IS OF BULK AT MOST 1048576: true; the input reads as it did. -/
def slotWorstUptoRow : OpenClaim := { program := "ytoipadeeochbnaa", sum := "170918ba69706e6c5ccc00713d6a5d3818da6f7cf29c2928b5f8d4eabdcea890", func := "cyanotype/cyanotypelaw14.SlotWorst", spec := "slotWorst", unfollowed := true, recurses := true, apart := false, narrowed := true }
def SlotWorstUptoSaid : Prop := slotWorstUptoRow.holds Try.pinned (OpenSpec.upto slotWorstSpec)

/-- 'cyanotypelaw14.SlotRefuses', WHERE WHAT IT READS IS OF BULK AT MOST 1048576: true; the input reads as it did. -/
def slotRefusesUptoRow : OpenClaim := { program := "ytoipadeeochbnaa", sum := "170918ba69706e6c5ccc00713d6a5d3818da6f7cf29c2928b5f8d4eabdcea890", func := "cyanotype/cyanotypelaw14.SlotRefuses", spec := "slotRefuses", unfollowed := true, recurses := true, apart := false, narrowed := true }
def SlotRefusesUptoSaid : Prop := slotRefusesUptoRow.holds Try.pinned (OpenSpec.upto slotRefusesSpec)

/-- 'cyanotypelaw14.SlotParts', WHERE WHAT IT READS IS OF BULK AT MOST 1048576: true; the input reads as it did. -/
def slotPartsUptoRow : OpenClaim := { program := "ytoipadeeochbnaa", sum := "170918ba69706e6c5ccc00713d6a5d3818da6f7cf29c2928b5f8d4eabdcea890", func := "cyanotype/cyanotypelaw14.SlotParts", spec := "slotParts", unfollowed := true, recurses := true, apart := false, narrowed := true }
def SlotPartsUptoSaid : Prop := slotPartsUptoRow.holds Try.pinned (OpenSpec.upto slotPartsSpec)

/-- 'cyanotypelaw14.SlotTells', WHERE WHAT IT READS IS OF BULK AT MOST 1048576: true; the input reads as it did. -/
def slotTellsUptoRow : OpenClaim := { program := "ytoipadeeochbnaa", sum := "170918ba69706e6c5ccc00713d6a5d3818da6f7cf29c2928b5f8d4eabdcea890", func := "cyanotype/cyanotypelaw14.SlotTells", spec := "slotTells", unfollowed := true, recurses := true, apart := false, narrowed := true }
def SlotTellsUptoSaid : Prop := slotTellsUptoRow.holds Try.pinned (OpenSpec.upto slotTellsSpec)

/-- 'cyanotypelaw14.SlotSums', WHERE WHAT IT READS IS OF BULK AT MOST 1048576: true; the input reads as it did. -/
def slotSumsUptoRow : OpenClaim := { program := "ytoipadeeochbnaa", sum := "170918ba69706e6c5ccc00713d6a5d3818da6f7cf29c2928b5f8d4eabdcea890", func := "cyanotype/cyanotypelaw14.SlotSums", spec := "slotSums", unfollowed := true, recurses := true, apart := false, narrowed := true }
def SlotSumsUptoSaid : Prop := slotSumsUptoRow.holds Try.pinned (OpenSpec.upto slotSumsSpec)

/-- 'cyanotypelaw04.BufApart', WHERE WHAT IT READS IS OF BULK AT MOST 1048576: true; the input reads as it did. -/
def bufApartUptoRow : OpenClaim := { program := "ytoipadeeochbnaa", sum := "170918ba69706e6c5ccc00713d6a5d3818da6f7cf29c2928b5f8d4eabdcea890", func := "cyanotype/cyanotypelaw04.BufApart", spec := "bufApart", unfollowed := true, recurses := true, apart := false, narrowed := true }
def BufApartUptoSaid : Prop := bufApartUptoRow.holds Try.pinned (OpenSpec.upto bufApartSpec)

/-- 'cyanotypelaw04.BufNew', WHERE WHAT IT READS IS OF BULK AT MOST 1048576: true; the input reads as it did. -/
def bufNewUptoRow : OpenClaim := { program := "ytoipadeeochbnaa", sum := "170918ba69706e6c5ccc00713d6a5d3818da6f7cf29c2928b5f8d4eabdcea890", func := "cyanotype/cyanotypelaw04.BufNew", spec := "bufNew", unfollowed := true, recurses := true, apart := false, narrowed := true }
def BufNewUptoSaid : Prop := bufNewUptoRow.holds Try.pinned (OpenSpec.upto bufNewSpec)

/-- 'cyanotypelaw04.BufDoes', WHERE WHAT IT READS IS OF BULK AT MOST 1048576: true; the input reads as it did. -/
def bufDoesUptoRow : OpenClaim := { program := "ytoipadeeochbnaa", sum := "170918ba69706e6c5ccc00713d6a5d3818da6f7cf29c2928b5f8d4eabdcea890", func := "cyanotype/cyanotypelaw04.BufDoes", spec := "bufDoes", unfollowed := true, recurses := true, apart := false, narrowed := true }
def BufDoesUptoSaid : Prop := bufDoesUptoRow.holds Try.pinned (OpenSpec.upto bufDoesSpec)

/-- 'cyanotypelaw05.ScanLooks', WHERE WHAT IT READS IS OF BULK AT MOST 1048576: true; the input reads as it did. -/
def scanLooksUptoRow : OpenClaim := { program := "ytoipadeeochbnaa", sum := "170918ba69706e6c5ccc00713d6a5d3818da6f7cf29c2928b5f8d4eabdcea890", func := "cyanotype/cyanotypelaw05.ScanLooks", spec := "scanLooks", unfollowed := true, recurses := true, apart := false, narrowed := true }
def ScanLooksUptoSaid : Prop := scanLooksUptoRow.holds Try.pinned (OpenSpec.upto scanLooksSpec)

/-- 'cyanotypelaw05.ScanPlaces', WHERE WHAT IT READS IS OF BULK AT MOST 1048576: true; the input reads as it did. -/
def scanPlacesUptoRow : OpenClaim := { program := "ytoipadeeochbnaa", sum := "170918ba69706e6c5ccc00713d6a5d3818da6f7cf29c2928b5f8d4eabdcea890", func := "cyanotype/cyanotypelaw05.ScanPlaces", spec := "scanPlaces", unfollowed := true, recurses := true, apart := false, narrowed := true }
def ScanPlacesUptoSaid : Prop := scanPlacesUptoRow.holds Try.pinned (OpenSpec.upto scanPlacesSpec)

/-- 'cyanotypelaw05.ScanStores', WHERE WHAT IT READS IS OF BULK AT MOST 1048576: true; the input reads as it did. -/
def scanStoresUptoRow : OpenClaim := { program := "ytoipadeeochbnaa", sum := "170918ba69706e6c5ccc00713d6a5d3818da6f7cf29c2928b5f8d4eabdcea890", func := "cyanotype/cyanotypelaw05.ScanStores", spec := "scanStores", unfollowed := true, recurses := true, apart := false, narrowed := true }
def ScanStoresUptoSaid : Prop := scanStoresUptoRow.holds Try.pinned (OpenSpec.upto scanStoresSpec)

/-- 'cyanotypelaw04.BufSeen', WHERE WHAT IT READS IS OF BULK AT MOST 1048576: true; the input reads as it did. -/
def bufSeenUptoRow : OpenClaim := { program := "ytoipadeeochbnaa", sum := "170918ba69706e6c5ccc00713d6a5d3818da6f7cf29c2928b5f8d4eabdcea890", func := "cyanotype/cyanotypelaw04.BufSeen", spec := "bufSeen", unfollowed := true, recurses := true, apart := false, narrowed := true }
def BufSeenUptoSaid : Prop := bufSeenUptoRow.holds Try.pinned (OpenSpec.upto bufSeenSpec)

/-- 'cyanotypelaw05.ScanDivides', WHERE WHAT IT READS IS OF BULK AT MOST 1048576: true; the input reads as it did. -/
def scanDividesUptoRow : OpenClaim := { program := "ytoipadeeochbnaa", sum := "170918ba69706e6c5ccc00713d6a5d3818da6f7cf29c2928b5f8d4eabdcea890", func := "cyanotype/cyanotypelaw05.ScanDivides", spec := "scanDivides", unfollowed := true, recurses := true, apart := false, narrowed := true }
def ScanDividesUptoSaid : Prop := scanDividesUptoRow.holds Try.pinned (OpenSpec.upto scanDividesSpec)

/-- 'cyanotypelaw05.ScanWindows', WHERE WHAT IT READS IS OF BULK AT MOST 1048576: true; the input reads as it did. -/
def scanWindowsUptoRow : OpenClaim := { program := "ytoipadeeochbnaa", sum := "170918ba69706e6c5ccc00713d6a5d3818da6f7cf29c2928b5f8d4eabdcea890", func := "cyanotype/cyanotypelaw05.ScanWindows", spec := "scanWindows", unfollowed := true, recurses := true, apart := false, narrowed := true }
def ScanWindowsUptoSaid : Prop := scanWindowsUptoRow.holds Try.pinned (OpenSpec.upto scanWindowsSpec)

/-- 'cyanotypelaw05.ScanBack', WHERE WHAT IT READS IS OF BULK AT MOST 1048576: true; the input reads as it did. -/
def scanBackUptoRow : OpenClaim := { program := "ytoipadeeochbnaa", sum := "170918ba69706e6c5ccc00713d6a5d3818da6f7cf29c2928b5f8d4eabdcea890", func := "cyanotype/cyanotypelaw05.ScanBack", spec := "scanBack", unfollowed := true, recurses := true, apart := false, narrowed := true }
def ScanBackUptoSaid : Prop := scanBackUptoRow.holds Try.pinned (OpenSpec.upto scanBackSpec)

/-- 'cyanotypelaw07.PlaneFlat', WHERE WHAT IT READS IS OF BULK AT MOST 1048576: true; the input reads as it did. -/
def planeFlatUptoRow : OpenClaim := { program := "ytoipadeeochbnaa", sum := "170918ba69706e6c5ccc00713d6a5d3818da6f7cf29c2928b5f8d4eabdcea890", func := "cyanotype/cyanotypelaw07.PlaneFlat", spec := "planeFlat", unfollowed := true, recurses := true, apart := false, narrowed := true }
def PlaneFlatUptoSaid : Prop := planeFlatUptoRow.holds Try.pinned (OpenSpec.upto planeFlatSpec)

/-- 'cyanotypelaw07.PlaneCounts', WHERE WHAT IT READS IS OF BULK AT MOST 1048576: true; the input reads as it did. -/
def planeCountsUptoRow : OpenClaim := { program := "ytoipadeeochbnaa", sum := "170918ba69706e6c5ccc00713d6a5d3818da6f7cf29c2928b5f8d4eabdcea890", func := "cyanotype/cyanotypelaw07.PlaneCounts", spec := "planeCounts", unfollowed := true, recurses := true, apart := false, narrowed := true }
def PlaneCountsUptoSaid : Prop := planeCountsUptoRow.holds Try.pinned (OpenSpec.upto planeCountsSpec)

/-- 'cyanotypelaw07.PlaneEdges', WHERE WHAT IT READS IS OF BULK AT MOST 1048576: true; the input reads as it did. -/
def planeEdgesUptoRow : OpenClaim := { program := "ytoipadeeochbnaa", sum := "170918ba69706e6c5ccc00713d6a5d3818da6f7cf29c2928b5f8d4eabdcea890", func := "cyanotype/cyanotypelaw07.PlaneEdges", spec := "planeEdges", unfollowed := true, recurses := true, apart := false, narrowed := true }
def PlaneEdgesUptoSaid : Prop := planeEdgesUptoRow.holds Try.pinned (OpenSpec.upto planeEdgesSpec)

/-- 'cyanotypelaw05.ScanSame', WHERE WHAT IT READS IS OF BULK AT MOST 1048576: true; the input reads as it did. -/
def scanSameUptoRow : OpenClaim := { program := "ytoipadeeochbnaa", sum := "170918ba69706e6c5ccc00713d6a5d3818da6f7cf29c2928b5f8d4eabdcea890", func := "cyanotype/cyanotypelaw05.ScanSame", spec := "scanSame", unfollowed := true, recurses := true, apart := false, narrowed := true }
def ScanSameUptoSaid : Prop := scanSameUptoRow.holds Try.pinned (OpenSpec.upto scanSameSpec)

/-- 'cyanotypelaw07.PlaneJoins', WHERE WHAT IT READS IS OF BULK AT MOST 1048576: true; the input reads as it did. -/
def planeJoinsUptoRow : OpenClaim := { program := "ytoipadeeochbnaa", sum := "170918ba69706e6c5ccc00713d6a5d3818da6f7cf29c2928b5f8d4eabdcea890", func := "cyanotype/cyanotypelaw07.PlaneJoins", spec := "planeJoins", unfollowed := true, recurses := true, apart := false, narrowed := true }
def PlaneJoinsUptoSaid : Prop := planeJoinsUptoRow.holds Try.pinned (OpenSpec.upto planeJoinsSpec)

/-- 'cyanotypelaw07.PlaneSplits', WHERE WHAT IT READS IS OF BULK AT MOST 1048576: true; the input reads as it did. -/
def planeSplitsUptoRow : OpenClaim := { program := "ytoipadeeochbnaa", sum := "170918ba69706e6c5ccc00713d6a5d3818da6f7cf29c2928b5f8d4eabdcea890", func := "cyanotype/cyanotypelaw07.PlaneSplits", spec := "planeSplits", unfollowed := true, recurses := true, apart := false, narrowed := true }
def PlaneSplitsUptoSaid : Prop := planeSplitsUptoRow.holds Try.pinned (OpenSpec.upto planeSplitsSpec)

end Rows
end Go.Proofs.Ytoipadeeochbnaa
