/-
  No cell of these rows narrows 'for every input' (looked for: loops, veiled, ifaces, maps, wideKeys, modest, calm, conditions, laid).
  DERIVED. THE GIVEN ROWS OF THIS SEAT. 34 by the template 'for every input the law returns true; each argument reads behind the call as it read before'; 0 by the template 'total and deterministic' (their statements: YtmfgdgmpblkadaaTotals.lean).
  GIVEN WITH THE SEED: the statements are not yours to turn. If you find one false, say at which input.
  Laid BY PROGRAM, IN A SANDBOX (cutbox-rows.mjs): the forced cells as the released guide's own fill.sh prints them over the translation bc5598866003c30d… (all of the seat's roots in one cut). By AI agents, Wed Nov 11 2026. No macro, syntax, notation, axiom, sorry.
-/
import Derived.Test.YtmfgdgmpblkadaaChecked
import GoSem.Claim
import GoSem.ClaimJoined
import GoSem.ClaimMapViews
import Derived.JoinedTies
import Derived.KernelRfl
namespace Go.Proofs.Ytmfgdgmpblkadaa
/- THE CELL 'sum', in the pinned program and in every row, IS THE sha256 OF THE DUMP (.gsa) THAT YtmfgdgmpblkadaaProg.lean LOADS. Nothing in Lean hashes anything: it is a label: what it is worth is what the hold of that sum in a sandbox is worth. -/
noncomputable def Try.pinned : Pinned := { name := "ytmfgdgmpblkadaa", sum := "bc5598866003c30dfaa9bac6d58e38d9164a8eef5d5824e53f6a38b908d3a9f0", checked := Try.checked }
namespace Rows
def none {H : Type} : Left H := { results := [], args := [] }

/-- 'rifflelaw01.ShapeTells': WHATEVER THE INPUT: true; the input reads as it did. -/
def shapeTellsSpec : ChangeSpec := { name := "shapeTells", fn := fun _ => fun
  | [d1, d2] => { results := [.lit (.bool true)], args := [d1, d2] }
  | _ => none }
def shapeTellsRow : OpenClaim := { program := "ytmfgdgmpblkadaa", sum := "bc5598866003c30dfaa9bac6d58e38d9164a8eef5d5824e53f6a38b908d3a9f0", func := "riffle/rifflelaw01.ShapeTells", spec := "shapeTells", unfollowed := true, recurses := true, apart := false }
def ShapeTellsSaid : Prop := shapeTellsRow.holds Try.pinned (OpenSpec.ofChange shapeTellsSpec)

/-- ITS FALSE NEIGHBOUR: 'it returns false'. Refute it at one input. -/
def shapeTellsWrong : ChangeSpec := { name := "shapeTells", fn := fun _ => fun
  | [d1, d2] => { results := [.lit (.bool false)], args := [d1, d2] }
  | _ => none }
def ShapeTellsWrongFalsely : Prop := shapeTellsRow.holds Try.pinned (OpenSpec.ofChange shapeTellsWrong)

/-- 'rifflelaw01.ShapePlaces': WHATEVER THE INPUT: true; the input reads as it did. -/
def shapePlacesSpec : ChangeSpec := { name := "shapePlaces", fn := fun _ => fun
  | [d1, d2, d3] => { results := [.lit (.bool true)], args := [d1, d2, d3] }
  | _ => none }
def shapePlacesRow : OpenClaim := { program := "ytmfgdgmpblkadaa", sum := "bc5598866003c30dfaa9bac6d58e38d9164a8eef5d5824e53f6a38b908d3a9f0", func := "riffle/rifflelaw01.ShapePlaces", spec := "shapePlaces", unfollowed := true, recurses := true, apart := false }
def ShapePlacesSaid : Prop := shapePlacesRow.holds Try.pinned (OpenSpec.ofChange shapePlacesSpec)

/-- ITS FALSE NEIGHBOUR: 'it returns false'. Refute it at one input. -/
def shapePlacesWrong : ChangeSpec := { name := "shapePlaces", fn := fun _ => fun
  | [d1, d2, d3] => { results := [.lit (.bool false)], args := [d1, d2, d3] }
  | _ => none }
def ShapePlacesWrongFalsely : Prop := shapePlacesRow.holds Try.pinned (OpenSpec.ofChange shapePlacesWrong)

/-- 'rifflelaw01.ShapeMakes': WHATEVER THE INPUT: true; the input reads as it did. -/
def shapeMakesSpec : ChangeSpec := { name := "shapeMakes", fn := fun _ => fun
  | [d1, d2, d3] => { results := [.lit (.bool true)], args := [d1, d2, d3] }
  | _ => none }
def shapeMakesRow : OpenClaim := { program := "ytmfgdgmpblkadaa", sum := "bc5598866003c30dfaa9bac6d58e38d9164a8eef5d5824e53f6a38b908d3a9f0", func := "riffle/rifflelaw01.ShapeMakes", spec := "shapeMakes", unfollowed := true, recurses := true, apart := false }
def ShapeMakesSaid : Prop := shapeMakesRow.holds Try.pinned (OpenSpec.ofChange shapeMakesSpec)

/-- ITS FALSE NEIGHBOUR: 'it returns false'. Refute it at one input. -/
def shapeMakesWrong : ChangeSpec := { name := "shapeMakes", fn := fun _ => fun
  | [d1, d2, d3] => { results := [.lit (.bool false)], args := [d1, d2, d3] }
  | _ => none }
def ShapeMakesWrongFalsely : Prop := shapeMakesRow.holds Try.pinned (OpenSpec.ofChange shapeMakesWrong)

/-- 'rifflelaw01.ShapeBack': WHATEVER THE INPUT: true; the input reads as it did. -/
def shapeBackSpec : ChangeSpec := { name := "shapeBack", fn := fun _ => fun
  | [d1, d2] => { results := [.lit (.bool true)], args := [d1, d2] }
  | _ => none }
def shapeBackRow : OpenClaim := { program := "ytmfgdgmpblkadaa", sum := "bc5598866003c30dfaa9bac6d58e38d9164a8eef5d5824e53f6a38b908d3a9f0", func := "riffle/rifflelaw01.ShapeBack", spec := "shapeBack", unfollowed := true, recurses := true, apart := false }
def ShapeBackSaid : Prop := shapeBackRow.holds Try.pinned (OpenSpec.ofChange shapeBackSpec)

/-- ITS FALSE NEIGHBOUR: 'it returns false'. Refute it at one input. -/
def shapeBackWrong : ChangeSpec := { name := "shapeBack", fn := fun _ => fun
  | [d1, d2] => { results := [.lit (.bool false)], args := [d1, d2] }
  | _ => none }
def ShapeBackWrongFalsely : Prop := shapeBackRow.holds Try.pinned (OpenSpec.ofChange shapeBackWrong)

/-- 'rifflelaw03.CellMakes': WHATEVER THE INPUT: true; the input reads as it did. -/
def cellMakesSpec : ChangeSpec := { name := "cellMakes", fn := fun _ => fun
  | [d1, d2] => { results := [.lit (.bool true)], args := [d1, d2] }
  | _ => none }
def cellMakesRow : OpenClaim := { program := "ytmfgdgmpblkadaa", sum := "bc5598866003c30dfaa9bac6d58e38d9164a8eef5d5824e53f6a38b908d3a9f0", func := "riffle/rifflelaw03.CellMakes", spec := "cellMakes", unfollowed := true, recurses := true, apart := false }
def CellMakesSaid : Prop := cellMakesRow.holds Try.pinned (OpenSpec.ofChange cellMakesSpec)

/-- ITS FALSE NEIGHBOUR: 'it returns false'. Refute it at one input. -/
def cellMakesWrong : ChangeSpec := { name := "cellMakes", fn := fun _ => fun
  | [d1, d2] => { results := [.lit (.bool false)], args := [d1, d2] }
  | _ => none }
def CellMakesWrongFalsely : Prop := cellMakesRow.holds Try.pinned (OpenSpec.ofChange cellMakesWrong)

/-- 'rifflelaw03.CellStacks': WHATEVER THE INPUT: true; the input reads as it did. -/
def cellStacksSpec : ChangeSpec := { name := "cellStacks", fn := fun _ => fun
  | [d] => { results := [.lit (.bool true)], args := [d] }
  | _ => none }
def cellStacksRow : OpenClaim := { program := "ytmfgdgmpblkadaa", sum := "bc5598866003c30dfaa9bac6d58e38d9164a8eef5d5824e53f6a38b908d3a9f0", func := "riffle/rifflelaw03.CellStacks", spec := "cellStacks", unfollowed := true, recurses := true, apart := false }
def CellStacksSaid : Prop := cellStacksRow.holds Try.pinned (OpenSpec.ofChange cellStacksSpec)

/-- ITS FALSE NEIGHBOUR: 'it returns false'. Refute it at one input. -/
def cellStacksWrong : ChangeSpec := { name := "cellStacks", fn := fun _ => fun
  | [d] => { results := [.lit (.bool false)], args := [d] }
  | _ => none }
def CellStacksWrongFalsely : Prop := cellStacksRow.holds Try.pinned (OpenSpec.ofChange cellStacksWrong)

/-- 'rifflelaw03.CellTells': WHATEVER THE INPUT: true; the input reads as it did. -/
def cellTellsSpec : ChangeSpec := { name := "cellTells", fn := fun _ => fun
  | [d1, d2, d3] => { results := [.lit (.bool true)], args := [d1, d2, d3] }
  | _ => none }
def cellTellsRow : OpenClaim := { program := "ytmfgdgmpblkadaa", sum := "bc5598866003c30dfaa9bac6d58e38d9164a8eef5d5824e53f6a38b908d3a9f0", func := "riffle/rifflelaw03.CellTells", spec := "cellTells", unfollowed := true, recurses := true, apart := false }
def CellTellsSaid : Prop := cellTellsRow.holds Try.pinned (OpenSpec.ofChange cellTellsSpec)

/-- ITS FALSE NEIGHBOUR: 'it returns false'. Refute it at one input. -/
def cellTellsWrong : ChangeSpec := { name := "cellTells", fn := fun _ => fun
  | [d1, d2, d3] => { results := [.lit (.bool false)], args := [d1, d2, d3] }
  | _ => none }
def CellTellsWrongFalsely : Prop := cellTellsRow.holds Try.pinned (OpenSpec.ofChange cellTellsWrong)

/-- 'rifflelaw03.CellBack': WHATEVER THE INPUT: true; the input reads as it did. -/
def cellBackSpec : ChangeSpec := { name := "cellBack", fn := fun _ => fun
  | [d] => { results := [.lit (.bool true)], args := [d] }
  | _ => none }
def cellBackRow : OpenClaim := { program := "ytmfgdgmpblkadaa", sum := "bc5598866003c30dfaa9bac6d58e38d9164a8eef5d5824e53f6a38b908d3a9f0", func := "riffle/rifflelaw03.CellBack", spec := "cellBack", unfollowed := true, recurses := true, apart := false }
def CellBackSaid : Prop := cellBackRow.holds Try.pinned (OpenSpec.ofChange cellBackSpec)

/-- ITS FALSE NEIGHBOUR: 'it returns false'. Refute it at one input. -/
def cellBackWrong : ChangeSpec := { name := "cellBack", fn := fun _ => fun
  | [d] => { results := [.lit (.bool false)], args := [d] }
  | _ => none }
def CellBackWrongFalsely : Prop := cellBackRow.holds Try.pinned (OpenSpec.ofChange cellBackWrong)

/-- 'rifflelaw04.ScalarTwos': WHATEVER THE INPUT: true; the input reads as it did. -/
def scalarTwosSpec : ChangeSpec := { name := "scalarTwos", fn := fun _ => fun
  | [d1, d2, d3] => { results := [.lit (.bool true)], args := [d1, d2, d3] }
  | _ => none }
def scalarTwosRow : OpenClaim := { program := "ytmfgdgmpblkadaa", sum := "bc5598866003c30dfaa9bac6d58e38d9164a8eef5d5824e53f6a38b908d3a9f0", func := "riffle/rifflelaw04.ScalarTwos", spec := "scalarTwos", apart := false }
def ScalarTwosSaid : Prop := scalarTwosRow.holds Try.pinned (OpenSpec.ofChange scalarTwosSpec)

/-- ITS FALSE NEIGHBOUR: 'it returns false'. Refute it at one input. -/
def scalarTwosWrong : ChangeSpec := { name := "scalarTwos", fn := fun _ => fun
  | [d1, d2, d3] => { results := [.lit (.bool false)], args := [d1, d2, d3] }
  | _ => none }
def ScalarTwosWrongFalsely : Prop := scalarTwosRow.holds Try.pinned (OpenSpec.ofChange scalarTwosWrong)

/-- 'rifflelaw04.ScalarParts': WHATEVER THE INPUT: true; the input reads as it did. -/
def scalarPartsSpec : ChangeSpec := { name := "scalarParts", fn := fun _ => fun
  | [d1, d2, d3] => { results := [.lit (.bool true)], args := [d1, d2, d3] }
  | _ => none }
def scalarPartsRow : OpenClaim := { program := "ytmfgdgmpblkadaa", sum := "bc5598866003c30dfaa9bac6d58e38d9164a8eef5d5824e53f6a38b908d3a9f0", func := "riffle/rifflelaw04.ScalarParts", spec := "scalarParts", apart := false }
def ScalarPartsSaid : Prop := scalarPartsRow.holds Try.pinned (OpenSpec.ofChange scalarPartsSpec)

/-- ITS FALSE NEIGHBOUR: 'it returns false'. Refute it at one input. -/
def scalarPartsWrong : ChangeSpec := { name := "scalarParts", fn := fun _ => fun
  | [d1, d2, d3] => { results := [.lit (.bool false)], args := [d1, d2, d3] }
  | _ => none }
def ScalarPartsWrongFalsely : Prop := scalarPartsRow.holds Try.pinned (OpenSpec.ofChange scalarPartsWrong)

/-- 'rifflelaw04.ScalarKinds': WHATEVER THE INPUT: true; the input reads as it did. -/
def scalarKindsSpec : ChangeSpec := { name := "scalarKinds", fn := fun _ => fun
  | [d] => { results := [.lit (.bool true)], args := [d] }
  | _ => none }
def scalarKindsRow : OpenClaim := { program := "ytmfgdgmpblkadaa", sum := "bc5598866003c30dfaa9bac6d58e38d9164a8eef5d5824e53f6a38b908d3a9f0", func := "riffle/rifflelaw04.ScalarKinds", spec := "scalarKinds", apart := false }
def ScalarKindsSaid : Prop := scalarKindsRow.holds Try.pinned (OpenSpec.ofChange scalarKindsSpec)

/-- ITS FALSE NEIGHBOUR: 'it returns false'. Refute it at one input. -/
def scalarKindsWrong : ChangeSpec := { name := "scalarKinds", fn := fun _ => fun
  | [d] => { results := [.lit (.bool false)], args := [d] }
  | _ => none }
def ScalarKindsWrongFalsely : Prop := scalarKindsRow.holds Try.pinned (OpenSpec.ofChange scalarKindsWrong)

/-- 'rifflelaw04.ScalarOnes': WHATEVER THE INPUT: true; the input reads as it did. -/
def scalarOnesSpec : ChangeSpec := { name := "scalarOnes", fn := fun _ => fun
  | [d1, d2, d3] => { results := [.lit (.bool true)], args := [d1, d2, d3] }
  | _ => none }
def scalarOnesRow : OpenClaim := { program := "ytmfgdgmpblkadaa", sum := "bc5598866003c30dfaa9bac6d58e38d9164a8eef5d5824e53f6a38b908d3a9f0", func := "riffle/rifflelaw04.ScalarOnes", spec := "scalarOnes", apart := false }
def ScalarOnesSaid : Prop := scalarOnesRow.holds Try.pinned (OpenSpec.ofChange scalarOnesSpec)

/-- ITS FALSE NEIGHBOUR: 'it returns false'. Refute it at one input. -/
def scalarOnesWrong : ChangeSpec := { name := "scalarOnes", fn := fun _ => fun
  | [d1, d2, d3] => { results := [.lit (.bool false)], args := [d1, d2, d3] }
  | _ => none }
def ScalarOnesWrongFalsely : Prop := scalarOnesRow.holds Try.pinned (OpenSpec.ofChange scalarOnesWrong)

/-- 'rifflelaw04.ScalarJoins': WHATEVER THE INPUT: true; the input reads as it did. -/
def scalarJoinsSpec : ChangeSpec := { name := "scalarJoins", fn := fun _ => fun
  | [d1, d2] => { results := [.lit (.bool true)], args := [d1, d2] }
  | _ => none }
def scalarJoinsRow : OpenClaim := { program := "ytmfgdgmpblkadaa", sum := "bc5598866003c30dfaa9bac6d58e38d9164a8eef5d5824e53f6a38b908d3a9f0", func := "riffle/rifflelaw04.ScalarJoins", spec := "scalarJoins", apart := false }
def ScalarJoinsSaid : Prop := scalarJoinsRow.holds Try.pinned (OpenSpec.ofChange scalarJoinsSpec)

/-- ITS FALSE NEIGHBOUR: 'it returns false'. Refute it at one input. -/
def scalarJoinsWrong : ChangeSpec := { name := "scalarJoins", fn := fun _ => fun
  | [d1, d2] => { results := [.lit (.bool false)], args := [d1, d2] }
  | _ => none }
def ScalarJoinsWrongFalsely : Prop := scalarJoinsRow.holds Try.pinned (OpenSpec.ofChange scalarJoinsWrong)

/-- 'rifflelaw05.SpreadFits': WHATEVER THE INPUT: true; the input reads as it did. -/
def spreadFitsSpec : ChangeSpec := { name := "spreadFits", fn := fun _ => fun
  | [d1, d2] => { results := [.lit (.bool true)], args := [d1, d2] }
  | _ => none }
def spreadFitsRow : OpenClaim := { program := "ytmfgdgmpblkadaa", sum := "bc5598866003c30dfaa9bac6d58e38d9164a8eef5d5824e53f6a38b908d3a9f0", func := "riffle/rifflelaw05.SpreadFits", spec := "spreadFits", unfollowed := true, recurses := true, apart := false }
def SpreadFitsSaid : Prop := spreadFitsRow.holds Try.pinned (OpenSpec.ofChange spreadFitsSpec)

/-- ITS FALSE NEIGHBOUR: 'it returns false'. Refute it at one input. -/
def spreadFitsWrong : ChangeSpec := { name := "spreadFits", fn := fun _ => fun
  | [d1, d2] => { results := [.lit (.bool false)], args := [d1, d2] }
  | _ => none }
def SpreadFitsWrongFalsely : Prop := spreadFitsRow.holds Try.pinned (OpenSpec.ofChange spreadFitsWrong)

/-- 'rifflelaw05.SpreadTwos': WHATEVER THE INPUT: true; the input reads as it did. -/
def spreadTwosSpec : ChangeSpec := { name := "spreadTwos", fn := fun _ => fun
  | [d1, d2, d3] => { results := [.lit (.bool true)], args := [d1, d2, d3] }
  | _ => none }
def spreadTwosRow : OpenClaim := { program := "ytmfgdgmpblkadaa", sum := "bc5598866003c30dfaa9bac6d58e38d9164a8eef5d5824e53f6a38b908d3a9f0", func := "riffle/rifflelaw05.SpreadTwos", spec := "spreadTwos", unfollowed := true, recurses := true, apart := false }
def SpreadTwosSaid : Prop := spreadTwosRow.holds Try.pinned (OpenSpec.ofChange spreadTwosSpec)

/-- ITS FALSE NEIGHBOUR: 'it returns false'. Refute it at one input. -/
def spreadTwosWrong : ChangeSpec := { name := "spreadTwos", fn := fun _ => fun
  | [d1, d2, d3] => { results := [.lit (.bool false)], args := [d1, d2, d3] }
  | _ => none }
def SpreadTwosWrongFalsely : Prop := spreadTwosRow.holds Try.pinned (OpenSpec.ofChange spreadTwosWrong)

/-- 'rifflelaw05.SpreadApart': WHATEVER THE INPUT: true; the input reads as it did. -/
def spreadApartSpec : ChangeSpec := { name := "spreadApart", fn := fun _ => fun
  | [d1, d2, d3] => { results := [.lit (.bool true)], args := [d1, d2, d3] }
  | _ => none }
def spreadApartRow : OpenClaim := { program := "ytmfgdgmpblkadaa", sum := "bc5598866003c30dfaa9bac6d58e38d9164a8eef5d5824e53f6a38b908d3a9f0", func := "riffle/rifflelaw05.SpreadApart", spec := "spreadApart", unfollowed := true, recurses := true, apart := false }
def SpreadApartSaid : Prop := spreadApartRow.holds Try.pinned (OpenSpec.ofChange spreadApartSpec)

/-- ITS FALSE NEIGHBOUR: 'it returns false'. Refute it at one input. -/
def spreadApartWrong : ChangeSpec := { name := "spreadApart", fn := fun _ => fun
  | [d1, d2, d3] => { results := [.lit (.bool false)], args := [d1, d2, d3] }
  | _ => none }
def SpreadApartWrongFalsely : Prop := spreadApartRow.holds Try.pinned (OpenSpec.ofChange spreadApartWrong)

/-- 'rifflelaw05.SpreadOnes': WHATEVER THE INPUT: true; the input reads as it did. -/
def spreadOnesSpec : ChangeSpec := { name := "spreadOnes", fn := fun _ => fun
  | [d1, d2] => { results := [.lit (.bool true)], args := [d1, d2] }
  | _ => none }
def spreadOnesRow : OpenClaim := { program := "ytmfgdgmpblkadaa", sum := "bc5598866003c30dfaa9bac6d58e38d9164a8eef5d5824e53f6a38b908d3a9f0", func := "riffle/rifflelaw05.SpreadOnes", spec := "spreadOnes", unfollowed := true, recurses := true, apart := false }
def SpreadOnesSaid : Prop := spreadOnesRow.holds Try.pinned (OpenSpec.ofChange spreadOnesSpec)

/-- ITS FALSE NEIGHBOUR: 'it returns false'. Refute it at one input. -/
def spreadOnesWrong : ChangeSpec := { name := "spreadOnes", fn := fun _ => fun
  | [d1, d2] => { results := [.lit (.bool false)], args := [d1, d2] }
  | _ => none }
def SpreadOnesWrongFalsely : Prop := spreadOnesRow.holds Try.pinned (OpenSpec.ofChange spreadOnesWrong)

/-- 'rifflelaw06.MoldReshapes': WHATEVER THE INPUT: true; the input reads as it did. -/
def moldReshapesSpec : ChangeSpec := { name := "moldReshapes", fn := fun _ => fun
  | [d1, d2] => { results := [.lit (.bool true)], args := [d1, d2] }
  | _ => none }
def moldReshapesRow : OpenClaim := { program := "ytmfgdgmpblkadaa", sum := "bc5598866003c30dfaa9bac6d58e38d9164a8eef5d5824e53f6a38b908d3a9f0", func := "riffle/rifflelaw06.MoldReshapes", spec := "moldReshapes", unfollowed := true, recurses := true, apart := false }
def MoldReshapesSaid : Prop := moldReshapesRow.holds Try.pinned (OpenSpec.ofChange moldReshapesSpec)

/-- ITS FALSE NEIGHBOUR: 'it returns false'. Refute it at one input. -/
def moldReshapesWrong : ChangeSpec := { name := "moldReshapes", fn := fun _ => fun
  | [d1, d2] => { results := [.lit (.bool false)], args := [d1, d2] }
  | _ => none }
def MoldReshapesWrongFalsely : Prop := moldReshapesRow.holds Try.pinned (OpenSpec.ofChange moldReshapesWrong)

/-- 'rifflelaw06.MoldCopies': WHATEVER THE INPUT: true; the input reads as it did. -/
def moldCopiesSpec : ChangeSpec := { name := "moldCopies", fn := fun _ => fun
  | [d1, d2, d3] => { results := [.lit (.bool true)], args := [d1, d2, d3] }
  | _ => none }
def moldCopiesRow : OpenClaim := { program := "ytmfgdgmpblkadaa", sum := "bc5598866003c30dfaa9bac6d58e38d9164a8eef5d5824e53f6a38b908d3a9f0", func := "riffle/rifflelaw06.MoldCopies", spec := "moldCopies", unfollowed := true, recurses := true, apart := false }
def MoldCopiesSaid : Prop := moldCopiesRow.holds Try.pinned (OpenSpec.ofChange moldCopiesSpec)

/-- ITS FALSE NEIGHBOUR: 'it returns false'. Refute it at one input. -/
def moldCopiesWrong : ChangeSpec := { name := "moldCopies", fn := fun _ => fun
  | [d1, d2, d3] => { results := [.lit (.bool false)], args := [d1, d2, d3] }
  | _ => none }
def MoldCopiesWrongFalsely : Prop := moldCopiesRow.holds Try.pinned (OpenSpec.ofChange moldCopiesWrong)

/-- 'rifflelaw06.MoldTells': WHATEVER THE INPUT: true; the input reads as it did. -/
def moldTellsSpec : ChangeSpec := { name := "moldTells", fn := fun _ => fun
  | [d] => { results := [.lit (.bool true)], args := [d] }
  | _ => none }
def moldTellsRow : OpenClaim := { program := "ytmfgdgmpblkadaa", sum := "bc5598866003c30dfaa9bac6d58e38d9164a8eef5d5824e53f6a38b908d3a9f0", func := "riffle/rifflelaw06.MoldTells", spec := "moldTells", unfollowed := true, recurses := true, apart := false }
def MoldTellsSaid : Prop := moldTellsRow.holds Try.pinned (OpenSpec.ofChange moldTellsSpec)

/-- ITS FALSE NEIGHBOUR: 'it returns false'. Refute it at one input. -/
def moldTellsWrong : ChangeSpec := { name := "moldTells", fn := fun _ => fun
  | [d] => { results := [.lit (.bool false)], args := [d] }
  | _ => none }
def MoldTellsWrongFalsely : Prop := moldTellsRow.holds Try.pinned (OpenSpec.ofChange moldTellsWrong)

/-- 'rifflelaw06.MoldBack': WHATEVER THE INPUT: true; the input reads as it did. -/
def moldBackSpec : ChangeSpec := { name := "moldBack", fn := fun _ => fun
  | [d1, d2, d3] => { results := [.lit (.bool true)], args := [d1, d2, d3] }
  | _ => none }
def moldBackRow : OpenClaim := { program := "ytmfgdgmpblkadaa", sum := "bc5598866003c30dfaa9bac6d58e38d9164a8eef5d5824e53f6a38b908d3a9f0", func := "riffle/rifflelaw06.MoldBack", spec := "moldBack", unfollowed := true, recurses := true, apart := false }
def MoldBackSaid : Prop := moldBackRow.holds Try.pinned (OpenSpec.ofChange moldBackSpec)

/-- ITS FALSE NEIGHBOUR: 'it returns false'. Refute it at one input. -/
def moldBackWrong : ChangeSpec := { name := "moldBack", fn := fun _ => fun
  | [d1, d2, d3] => { results := [.lit (.bool false)], args := [d1, d2, d3] }
  | _ => none }
def MoldBackWrongFalsely : Prop := moldBackRow.holds Try.pinned (OpenSpec.ofChange moldBackWrong)

/-- 'rifflelaw07.CarveTakes': WHATEVER THE INPUT: true; the input reads as it did. -/
def carveTakesSpec : ChangeSpec := { name := "carveTakes", fn := fun _ => fun
  | [d1, d2] => { results := [.lit (.bool true)], args := [d1, d2] }
  | _ => none }
def carveTakesRow : OpenClaim := { program := "ytmfgdgmpblkadaa", sum := "bc5598866003c30dfaa9bac6d58e38d9164a8eef5d5824e53f6a38b908d3a9f0", func := "riffle/rifflelaw07.CarveTakes", spec := "carveTakes", unfollowed := true, recurses := true, apart := false }
def CarveTakesSaid : Prop := carveTakesRow.holds Try.pinned (OpenSpec.ofChange carveTakesSpec)

/-- ITS FALSE NEIGHBOUR: 'it returns false'. Refute it at one input. -/
def carveTakesWrong : ChangeSpec := { name := "carveTakes", fn := fun _ => fun
  | [d1, d2] => { results := [.lit (.bool false)], args := [d1, d2] }
  | _ => none }
def CarveTakesWrongFalsely : Prop := carveTakesRow.holds Try.pinned (OpenSpec.ofChange carveTakesWrong)

/-- 'rifflelaw07.CarveDrops': WHATEVER THE INPUT: true; the input reads as it did. -/
def carveDropsSpec : ChangeSpec := { name := "carveDrops", fn := fun _ => fun
  | [d1, d2] => { results := [.lit (.bool true)], args := [d1, d2] }
  | _ => none }
def carveDropsRow : OpenClaim := { program := "ytmfgdgmpblkadaa", sum := "bc5598866003c30dfaa9bac6d58e38d9164a8eef5d5824e53f6a38b908d3a9f0", func := "riffle/rifflelaw07.CarveDrops", spec := "carveDrops", unfollowed := true, recurses := true, apart := false }
def CarveDropsSaid : Prop := carveDropsRow.holds Try.pinned (OpenSpec.ofChange carveDropsSpec)

/-- ITS FALSE NEIGHBOUR: 'it returns false'. Refute it at one input. -/
def carveDropsWrong : ChangeSpec := { name := "carveDrops", fn := fun _ => fun
  | [d1, d2] => { results := [.lit (.bool false)], args := [d1, d2] }
  | _ => none }
def CarveDropsWrongFalsely : Prop := carveDropsRow.holds Try.pinned (OpenSpec.ofChange carveDropsWrong)

/-- 'rifflelaw07.CarveBack': WHATEVER THE INPUT: true; the input reads as it did. -/
def carveBackSpec : ChangeSpec := { name := "carveBack", fn := fun _ => fun
  | [d1, d2, d3] => { results := [.lit (.bool true)], args := [d1, d2, d3] }
  | _ => none }
def carveBackRow : OpenClaim := { program := "ytmfgdgmpblkadaa", sum := "bc5598866003c30dfaa9bac6d58e38d9164a8eef5d5824e53f6a38b908d3a9f0", func := "riffle/rifflelaw07.CarveBack", spec := "carveBack", unfollowed := true, recurses := true, apart := false }
def CarveBackSaid : Prop := carveBackRow.holds Try.pinned (OpenSpec.ofChange carveBackSpec)

/-- ITS FALSE NEIGHBOUR: 'it returns false'. Refute it at one input. -/
def carveBackWrong : ChangeSpec := { name := "carveBack", fn := fun _ => fun
  | [d1, d2, d3] => { results := [.lit (.bool false)], args := [d1, d2, d3] }
  | _ => none }
def CarveBackWrongFalsely : Prop := carveBackRow.holds Try.pinned (OpenSpec.ofChange carveBackWrong)

/-- 'rifflelaw07.CarveTurns': WHATEVER THE INPUT: true; the input reads as it did. -/
def carveTurnsSpec : ChangeSpec := { name := "carveTurns", fn := fun _ => fun
  | [d1, d2, d3] => { results := [.lit (.bool true)], args := [d1, d2, d3] }
  | _ => none }
def carveTurnsRow : OpenClaim := { program := "ytmfgdgmpblkadaa", sum := "bc5598866003c30dfaa9bac6d58e38d9164a8eef5d5824e53f6a38b908d3a9f0", func := "riffle/rifflelaw07.CarveTurns", spec := "carveTurns", unfollowed := true, recurses := true, apart := false }
def CarveTurnsSaid : Prop := carveTurnsRow.holds Try.pinned (OpenSpec.ofChange carveTurnsSpec)

/-- ITS FALSE NEIGHBOUR: 'it returns false'. Refute it at one input. -/
def carveTurnsWrong : ChangeSpec := { name := "carveTurns", fn := fun _ => fun
  | [d1, d2, d3] => { results := [.lit (.bool false)], args := [d1, d2, d3] }
  | _ => none }
def CarveTurnsWrongFalsely : Prop := carveTurnsRow.holds Try.pinned (OpenSpec.ofChange carveTurnsWrong)

/-- 'rifflelaw07.CarveParts': WHATEVER THE INPUT: true; the input reads as it did. -/
def carvePartsSpec : ChangeSpec := { name := "carveParts", fn := fun _ => fun
  | [d1, d2] => { results := [.lit (.bool true)], args := [d1, d2] }
  | _ => none }
def carvePartsRow : OpenClaim := { program := "ytmfgdgmpblkadaa", sum := "bc5598866003c30dfaa9bac6d58e38d9164a8eef5d5824e53f6a38b908d3a9f0", func := "riffle/rifflelaw07.CarveParts", spec := "carveParts", unfollowed := true, recurses := true, apart := false }
def CarvePartsSaid : Prop := carvePartsRow.holds Try.pinned (OpenSpec.ofChange carvePartsSpec)

/-- ITS FALSE NEIGHBOUR: 'it returns false'. Refute it at one input. -/
def carvePartsWrong : ChangeSpec := { name := "carveParts", fn := fun _ => fun
  | [d1, d2] => { results := [.lit (.bool false)], args := [d1, d2] }
  | _ => none }
def CarvePartsWrongFalsely : Prop := carvePartsRow.holds Try.pinned (OpenSpec.ofChange carvePartsWrong)

/-- 'rifflelaw08.FoldRows': WHATEVER THE INPUT: true; the input reads as it did. -/
def foldRowsSpec : ChangeSpec := { name := "foldRows", fn := fun _ => fun
  | [d1, d2] => { results := [.lit (.bool true)], args := [d1, d2] }
  | _ => none }
def foldRowsRow : OpenClaim := { program := "ytmfgdgmpblkadaa", sum := "bc5598866003c30dfaa9bac6d58e38d9164a8eef5d5824e53f6a38b908d3a9f0", func := "riffle/rifflelaw08.FoldRows", spec := "foldRows", recurses := true, apart := false }
def FoldRowsSaid : Prop := foldRowsRow.holds Try.pinned (OpenSpec.ofChange foldRowsSpec)

/-- ITS FALSE NEIGHBOUR: 'it returns false'. Refute it at one input. -/
def foldRowsWrong : ChangeSpec := { name := "foldRows", fn := fun _ => fun
  | [d1, d2] => { results := [.lit (.bool false)], args := [d1, d2] }
  | _ => none }
def FoldRowsWrongFalsely : Prop := foldRowsRow.holds Try.pinned (OpenSpec.ofChange foldRowsWrong)

/-- 'rifflelaw08.FoldReduces': WHATEVER THE INPUT: true; the input reads as it did. -/
def foldReducesSpec : ChangeSpec := { name := "foldReduces", fn := fun _ => fun
  | [d1, d2, d3] => { results := [.lit (.bool true)], args := [d1, d2, d3] }
  | _ => none }
def foldReducesRow : OpenClaim := { program := "ytmfgdgmpblkadaa", sum := "bc5598866003c30dfaa9bac6d58e38d9164a8eef5d5824e53f6a38b908d3a9f0", func := "riffle/rifflelaw08.FoldReduces", spec := "foldReduces", unfollowed := true, recurses := true, apart := false }
def FoldReducesSaid : Prop := foldReducesRow.holds Try.pinned (OpenSpec.ofChange foldReducesSpec)

/-- ITS FALSE NEIGHBOUR: 'it returns false'. Refute it at one input. -/
def foldReducesWrong : ChangeSpec := { name := "foldReduces", fn := fun _ => fun
  | [d1, d2, d3] => { results := [.lit (.bool false)], args := [d1, d2, d3] }
  | _ => none }
def FoldReducesWrongFalsely : Prop := foldReducesRow.holds Try.pinned (OpenSpec.ofChange foldReducesWrong)

/-- 'rifflelaw08.FoldScans': WHATEVER THE INPUT: true; the input reads as it did. -/
def foldScansSpec : ChangeSpec := { name := "foldScans", fn := fun _ => fun
  | [d1, d2, d3] => { results := [.lit (.bool true)], args := [d1, d2, d3] }
  | _ => none }
def foldScansRow : OpenClaim := { program := "ytmfgdgmpblkadaa", sum := "bc5598866003c30dfaa9bac6d58e38d9164a8eef5d5824e53f6a38b908d3a9f0", func := "riffle/rifflelaw08.FoldScans", spec := "foldScans", unfollowed := true, recurses := true, apart := false }
def FoldScansSaid : Prop := foldScansRow.holds Try.pinned (OpenSpec.ofChange foldScansSpec)

/-- ITS FALSE NEIGHBOUR: 'it returns false'. Refute it at one input. -/
def foldScansWrong : ChangeSpec := { name := "foldScans", fn := fun _ => fun
  | [d1, d2, d3] => { results := [.lit (.bool false)], args := [d1, d2, d3] }
  | _ => none }
def FoldScansWrongFalsely : Prop := foldScansRow.holds Try.pinned (OpenSpec.ofChange foldScansWrong)

/-- 'rifflelaw08.FoldLast': WHATEVER THE INPUT: true; the input reads as it did. -/
def foldLastSpec : ChangeSpec := { name := "foldLast", fn := fun _ => fun
  | [d1, d2] => { results := [.lit (.bool true)], args := [d1, d2] }
  | _ => none }
def foldLastRow : OpenClaim := { program := "ytmfgdgmpblkadaa", sum := "bc5598866003c30dfaa9bac6d58e38d9164a8eef5d5824e53f6a38b908d3a9f0", func := "riffle/rifflelaw08.FoldLast", spec := "foldLast", unfollowed := true, recurses := true, apart := false }
def FoldLastSaid : Prop := foldLastRow.holds Try.pinned (OpenSpec.ofChange foldLastSpec)

/-- ITS FALSE NEIGHBOUR: 'it returns false'. Refute it at one input. -/
def foldLastWrong : ChangeSpec := { name := "foldLast", fn := fun _ => fun
  | [d1, d2] => { results := [.lit (.bool false)], args := [d1, d2] }
  | _ => none }
def FoldLastWrongFalsely : Prop := foldLastRow.holds Try.pinned (OpenSpec.ofChange foldLastWrong)

/-- 'rifflelaw09.ProductInners': WHATEVER THE INPUT: true; the input reads as it did. -/
def productInnersSpec : ChangeSpec := { name := "productInners", fn := fun _ => fun
  | [d1, d2, d3] => { results := [.lit (.bool true)], args := [d1, d2, d3] }
  | _ => none }
def productInnersRow : OpenClaim := { program := "ytmfgdgmpblkadaa", sum := "bc5598866003c30dfaa9bac6d58e38d9164a8eef5d5824e53f6a38b908d3a9f0", func := "riffle/rifflelaw09.ProductInners", spec := "productInners", unfollowed := true, recurses := true, apart := false }
def ProductInnersSaid : Prop := productInnersRow.holds Try.pinned (OpenSpec.ofChange productInnersSpec)

/-- ITS FALSE NEIGHBOUR: 'it returns false'. Refute it at one input. -/
def productInnersWrong : ChangeSpec := { name := "productInners", fn := fun _ => fun
  | [d1, d2, d3] => { results := [.lit (.bool false)], args := [d1, d2, d3] }
  | _ => none }
def ProductInnersWrongFalsely : Prop := productInnersRow.holds Try.pinned (OpenSpec.ofChange productInnersWrong)

/-- 'rifflelaw09.ProductOuters': WHATEVER THE INPUT: true; the input reads as it did. -/
def productOutersSpec : ChangeSpec := { name := "productOuters", fn := fun _ => fun
  | [d1, d2, d3] => { results := [.lit (.bool true)], args := [d1, d2, d3] }
  | _ => none }
def productOutersRow : OpenClaim := { program := "ytmfgdgmpblkadaa", sum := "bc5598866003c30dfaa9bac6d58e38d9164a8eef5d5824e53f6a38b908d3a9f0", func := "riffle/rifflelaw09.ProductOuters", spec := "productOuters", unfollowed := true, recurses := true, apart := false }
def ProductOutersSaid : Prop := productOutersRow.holds Try.pinned (OpenSpec.ofChange productOutersSpec)

/-- ITS FALSE NEIGHBOUR: 'it returns false'. Refute it at one input. -/
def productOutersWrong : ChangeSpec := { name := "productOuters", fn := fun _ => fun
  | [d1, d2, d3] => { results := [.lit (.bool false)], args := [d1, d2, d3] }
  | _ => none }
def ProductOutersWrongFalsely : Prop := productOutersRow.holds Try.pinned (OpenSpec.ofChange productOutersWrong)

/-- 'rifflelaw09.ProductItems': WHATEVER THE INPUT: true; the input reads as it did. -/
def productItemsSpec : ChangeSpec := { name := "productItems", fn := fun _ => fun
  | [d1, d2, d3] => { results := [.lit (.bool true)], args := [d1, d2, d3] }
  | _ => none }
def productItemsRow : OpenClaim := { program := "ytmfgdgmpblkadaa", sum := "bc5598866003c30dfaa9bac6d58e38d9164a8eef5d5824e53f6a38b908d3a9f0", func := "riffle/rifflelaw09.ProductItems", spec := "productItems", unfollowed := true, recurses := true, apart := false }
def ProductItemsSaid : Prop := productItemsRow.holds Try.pinned (OpenSpec.ofChange productItemsSpec)

/-- ITS FALSE NEIGHBOUR: 'it returns false'. Refute it at one input. -/
def productItemsWrong : ChangeSpec := { name := "productItems", fn := fun _ => fun
  | [d1, d2, d3] => { results := [.lit (.bool false)], args := [d1, d2, d3] }
  | _ => none }
def ProductItemsWrongFalsely : Prop := productItemsRow.holds Try.pinned (OpenSpec.ofChange productItemsWrong)

/-- 'rifflelaw09.ProductTurns': WHATEVER THE INPUT: true; the input reads as it did. -/
def productTurnsSpec : ChangeSpec := { name := "productTurns", fn := fun _ => fun
  | [d1, d2, d3] => { results := [.lit (.bool true)], args := [d1, d2, d3] }
  | _ => none }
def productTurnsRow : OpenClaim := { program := "ytmfgdgmpblkadaa", sum := "bc5598866003c30dfaa9bac6d58e38d9164a8eef5d5824e53f6a38b908d3a9f0", func := "riffle/rifflelaw09.ProductTurns", spec := "productTurns", unfollowed := true, recurses := true, apart := false }
def ProductTurnsSaid : Prop := productTurnsRow.holds Try.pinned (OpenSpec.ofChange productTurnsSpec)

/-- ITS FALSE NEIGHBOUR: 'it returns false'. Refute it at one input. -/
def productTurnsWrong : ChangeSpec := { name := "productTurns", fn := fun _ => fun
  | [d1, d2, d3] => { results := [.lit (.bool false)], args := [d1, d2, d3] }
  | _ => none }
def ProductTurnsWrongFalsely : Prop := productTurnsRow.holds Try.pinned (OpenSpec.ofChange productTurnsWrong)

/- THE SECOND FORM. 'bulk': how many values and letters a reading holds, each counted each time it is reached (what is shared counts as often as it is met; a slice's spare places count too). A statement '..UptoSaid' is the law's where the arguments, and the package variables that the reading takes, are together of bulk at most 1048576: NARROWER than '..Said'. Prove '..Said' where nothing that the law and all that it calls make is longer than what came in: it says more and counts as full. Else prove '..UptoSaid'. A law counts once. -/
mutual
def uptoBulk {H : Type} : DataW H → Nat
  | .lit (.string bytes) => bytes.length + 1
  | .lit _ => 1
  | .nil => 1
  | .ptr d => uptoBulk d + 1
  | .slice elems spare => uptoBulkAll elems + uptoBulkAll spare + 1
  | .agg parts => uptoBulkAll parts + 1
  | .iface _ d => uptoBulk d + 1
  | .map entries => uptoBulkEntries entries + 1
  | .held _ => 1
def uptoBulkAll {H : Type} : List (DataW H) → Nat
  | [] => 0
  | d :: r => uptoBulk d + uptoBulkAll r
def uptoBulkEntries {H : Type} : List (Lit × DataW H) → Nat
  | [] => 0
  | x :: r => uptoBulkEntry x + uptoBulkEntries r
def uptoBulkEntry {H : Type} : Lit × DataW H → Nat
  | (.string bytes, d) => bytes.length + uptoBulk d + 1
  | (_, d) => uptoBulk d + 1
 end
def uptoSmall : (H : Type) → List (DataW H) → Bool := fun _ ds => decide (uptoBulkAll ds ≤ 1048576)
def OpenSpec.upto (s : _root_.Go.ChangeSpec) : _root_.Go.OpenSpec := { _root_.Go.OpenSpec.ofChange s with cond := some uptoSmall }

/-- 'rifflelaw01.ShapeTells', WHERE WHAT IT READS IS OF BULK AT MOST 1048576: true; the input reads as it did. -/
def shapeTellsUptoRow : OpenClaim := { program := "ytmfgdgmpblkadaa", sum := "bc5598866003c30dfaa9bac6d58e38d9164a8eef5d5824e53f6a38b908d3a9f0", func := "riffle/rifflelaw01.ShapeTells", spec := "shapeTells", unfollowed := true, recurses := true, apart := false, narrowed := true }
def ShapeTellsUptoSaid : Prop := shapeTellsUptoRow.holds Try.pinned (OpenSpec.upto shapeTellsSpec)

/-- 'rifflelaw01.ShapePlaces', WHERE WHAT IT READS IS OF BULK AT MOST 1048576: true; the input reads as it did. -/
def shapePlacesUptoRow : OpenClaim := { program := "ytmfgdgmpblkadaa", sum := "bc5598866003c30dfaa9bac6d58e38d9164a8eef5d5824e53f6a38b908d3a9f0", func := "riffle/rifflelaw01.ShapePlaces", spec := "shapePlaces", unfollowed := true, recurses := true, apart := false, narrowed := true }
def ShapePlacesUptoSaid : Prop := shapePlacesUptoRow.holds Try.pinned (OpenSpec.upto shapePlacesSpec)

/-- 'rifflelaw01.ShapeMakes', WHERE WHAT IT READS IS OF BULK AT MOST 1048576: true; the input reads as it did. -/
def shapeMakesUptoRow : OpenClaim := { program := "ytmfgdgmpblkadaa", sum := "bc5598866003c30dfaa9bac6d58e38d9164a8eef5d5824e53f6a38b908d3a9f0", func := "riffle/rifflelaw01.ShapeMakes", spec := "shapeMakes", unfollowed := true, recurses := true, apart := false, narrowed := true }
def ShapeMakesUptoSaid : Prop := shapeMakesUptoRow.holds Try.pinned (OpenSpec.upto shapeMakesSpec)

/-- 'rifflelaw01.ShapeBack', WHERE WHAT IT READS IS OF BULK AT MOST 1048576: true; the input reads as it did. -/
def shapeBackUptoRow : OpenClaim := { program := "ytmfgdgmpblkadaa", sum := "bc5598866003c30dfaa9bac6d58e38d9164a8eef5d5824e53f6a38b908d3a9f0", func := "riffle/rifflelaw01.ShapeBack", spec := "shapeBack", unfollowed := true, recurses := true, apart := false, narrowed := true }
def ShapeBackUptoSaid : Prop := shapeBackUptoRow.holds Try.pinned (OpenSpec.upto shapeBackSpec)

/-- 'rifflelaw03.CellMakes', WHERE WHAT IT READS IS OF BULK AT MOST 1048576: true; the input reads as it did. -/
def cellMakesUptoRow : OpenClaim := { program := "ytmfgdgmpblkadaa", sum := "bc5598866003c30dfaa9bac6d58e38d9164a8eef5d5824e53f6a38b908d3a9f0", func := "riffle/rifflelaw03.CellMakes", spec := "cellMakes", unfollowed := true, recurses := true, apart := false, narrowed := true }
def CellMakesUptoSaid : Prop := cellMakesUptoRow.holds Try.pinned (OpenSpec.upto cellMakesSpec)

/-- 'rifflelaw03.CellStacks', WHERE WHAT IT READS IS OF BULK AT MOST 1048576: true; the input reads as it did. -/
def cellStacksUptoRow : OpenClaim := { program := "ytmfgdgmpblkadaa", sum := "bc5598866003c30dfaa9bac6d58e38d9164a8eef5d5824e53f6a38b908d3a9f0", func := "riffle/rifflelaw03.CellStacks", spec := "cellStacks", unfollowed := true, recurses := true, apart := false, narrowed := true }
def CellStacksUptoSaid : Prop := cellStacksUptoRow.holds Try.pinned (OpenSpec.upto cellStacksSpec)

/-- 'rifflelaw03.CellTells', WHERE WHAT IT READS IS OF BULK AT MOST 1048576: true; the input reads as it did. -/
def cellTellsUptoRow : OpenClaim := { program := "ytmfgdgmpblkadaa", sum := "bc5598866003c30dfaa9bac6d58e38d9164a8eef5d5824e53f6a38b908d3a9f0", func := "riffle/rifflelaw03.CellTells", spec := "cellTells", unfollowed := true, recurses := true, apart := false, narrowed := true }
def CellTellsUptoSaid : Prop := cellTellsUptoRow.holds Try.pinned (OpenSpec.upto cellTellsSpec)

/-- 'rifflelaw03.CellBack', WHERE WHAT IT READS IS OF BULK AT MOST 1048576: true; the input reads as it did. -/
def cellBackUptoRow : OpenClaim := { program := "ytmfgdgmpblkadaa", sum := "bc5598866003c30dfaa9bac6d58e38d9164a8eef5d5824e53f6a38b908d3a9f0", func := "riffle/rifflelaw03.CellBack", spec := "cellBack", unfollowed := true, recurses := true, apart := false, narrowed := true }
def CellBackUptoSaid : Prop := cellBackUptoRow.holds Try.pinned (OpenSpec.upto cellBackSpec)

/-- 'rifflelaw04.ScalarTwos', WHERE WHAT IT READS IS OF BULK AT MOST 1048576: true; the input reads as it did. -/
def scalarTwosUptoRow : OpenClaim := { program := "ytmfgdgmpblkadaa", sum := "bc5598866003c30dfaa9bac6d58e38d9164a8eef5d5824e53f6a38b908d3a9f0", func := "riffle/rifflelaw04.ScalarTwos", spec := "scalarTwos", apart := false, narrowed := true }
def ScalarTwosUptoSaid : Prop := scalarTwosUptoRow.holds Try.pinned (OpenSpec.upto scalarTwosSpec)

/-- 'rifflelaw04.ScalarParts', WHERE WHAT IT READS IS OF BULK AT MOST 1048576: true; the input reads as it did. -/
def scalarPartsUptoRow : OpenClaim := { program := "ytmfgdgmpblkadaa", sum := "bc5598866003c30dfaa9bac6d58e38d9164a8eef5d5824e53f6a38b908d3a9f0", func := "riffle/rifflelaw04.ScalarParts", spec := "scalarParts", apart := false, narrowed := true }
def ScalarPartsUptoSaid : Prop := scalarPartsUptoRow.holds Try.pinned (OpenSpec.upto scalarPartsSpec)

/-- 'rifflelaw04.ScalarKinds', WHERE WHAT IT READS IS OF BULK AT MOST 1048576: true; the input reads as it did. -/
def scalarKindsUptoRow : OpenClaim := { program := "ytmfgdgmpblkadaa", sum := "bc5598866003c30dfaa9bac6d58e38d9164a8eef5d5824e53f6a38b908d3a9f0", func := "riffle/rifflelaw04.ScalarKinds", spec := "scalarKinds", apart := false, narrowed := true }
def ScalarKindsUptoSaid : Prop := scalarKindsUptoRow.holds Try.pinned (OpenSpec.upto scalarKindsSpec)

/-- 'rifflelaw04.ScalarOnes', WHERE WHAT IT READS IS OF BULK AT MOST 1048576: true; the input reads as it did. -/
def scalarOnesUptoRow : OpenClaim := { program := "ytmfgdgmpblkadaa", sum := "bc5598866003c30dfaa9bac6d58e38d9164a8eef5d5824e53f6a38b908d3a9f0", func := "riffle/rifflelaw04.ScalarOnes", spec := "scalarOnes", apart := false, narrowed := true }
def ScalarOnesUptoSaid : Prop := scalarOnesUptoRow.holds Try.pinned (OpenSpec.upto scalarOnesSpec)

/-- 'rifflelaw04.ScalarJoins', WHERE WHAT IT READS IS OF BULK AT MOST 1048576: true; the input reads as it did. -/
def scalarJoinsUptoRow : OpenClaim := { program := "ytmfgdgmpblkadaa", sum := "bc5598866003c30dfaa9bac6d58e38d9164a8eef5d5824e53f6a38b908d3a9f0", func := "riffle/rifflelaw04.ScalarJoins", spec := "scalarJoins", apart := false, narrowed := true }
def ScalarJoinsUptoSaid : Prop := scalarJoinsUptoRow.holds Try.pinned (OpenSpec.upto scalarJoinsSpec)

/-- 'rifflelaw05.SpreadFits', WHERE WHAT IT READS IS OF BULK AT MOST 1048576: true; the input reads as it did. -/
def spreadFitsUptoRow : OpenClaim := { program := "ytmfgdgmpblkadaa", sum := "bc5598866003c30dfaa9bac6d58e38d9164a8eef5d5824e53f6a38b908d3a9f0", func := "riffle/rifflelaw05.SpreadFits", spec := "spreadFits", unfollowed := true, recurses := true, apart := false, narrowed := true }
def SpreadFitsUptoSaid : Prop := spreadFitsUptoRow.holds Try.pinned (OpenSpec.upto spreadFitsSpec)

/-- 'rifflelaw05.SpreadTwos', WHERE WHAT IT READS IS OF BULK AT MOST 1048576: true; the input reads as it did. -/
def spreadTwosUptoRow : OpenClaim := { program := "ytmfgdgmpblkadaa", sum := "bc5598866003c30dfaa9bac6d58e38d9164a8eef5d5824e53f6a38b908d3a9f0", func := "riffle/rifflelaw05.SpreadTwos", spec := "spreadTwos", unfollowed := true, recurses := true, apart := false, narrowed := true }
def SpreadTwosUptoSaid : Prop := spreadTwosUptoRow.holds Try.pinned (OpenSpec.upto spreadTwosSpec)

/-- 'rifflelaw05.SpreadApart', WHERE WHAT IT READS IS OF BULK AT MOST 1048576: true; the input reads as it did. -/
def spreadApartUptoRow : OpenClaim := { program := "ytmfgdgmpblkadaa", sum := "bc5598866003c30dfaa9bac6d58e38d9164a8eef5d5824e53f6a38b908d3a9f0", func := "riffle/rifflelaw05.SpreadApart", spec := "spreadApart", unfollowed := true, recurses := true, apart := false, narrowed := true }
def SpreadApartUptoSaid : Prop := spreadApartUptoRow.holds Try.pinned (OpenSpec.upto spreadApartSpec)

/-- 'rifflelaw05.SpreadOnes', WHERE WHAT IT READS IS OF BULK AT MOST 1048576: true; the input reads as it did. -/
def spreadOnesUptoRow : OpenClaim := { program := "ytmfgdgmpblkadaa", sum := "bc5598866003c30dfaa9bac6d58e38d9164a8eef5d5824e53f6a38b908d3a9f0", func := "riffle/rifflelaw05.SpreadOnes", spec := "spreadOnes", unfollowed := true, recurses := true, apart := false, narrowed := true }
def SpreadOnesUptoSaid : Prop := spreadOnesUptoRow.holds Try.pinned (OpenSpec.upto spreadOnesSpec)

/-- 'rifflelaw06.MoldReshapes', WHERE WHAT IT READS IS OF BULK AT MOST 1048576: true; the input reads as it did. -/
def moldReshapesUptoRow : OpenClaim := { program := "ytmfgdgmpblkadaa", sum := "bc5598866003c30dfaa9bac6d58e38d9164a8eef5d5824e53f6a38b908d3a9f0", func := "riffle/rifflelaw06.MoldReshapes", spec := "moldReshapes", unfollowed := true, recurses := true, apart := false, narrowed := true }
def MoldReshapesUptoSaid : Prop := moldReshapesUptoRow.holds Try.pinned (OpenSpec.upto moldReshapesSpec)

/-- 'rifflelaw06.MoldCopies', WHERE WHAT IT READS IS OF BULK AT MOST 1048576: true; the input reads as it did. -/
def moldCopiesUptoRow : OpenClaim := { program := "ytmfgdgmpblkadaa", sum := "bc5598866003c30dfaa9bac6d58e38d9164a8eef5d5824e53f6a38b908d3a9f0", func := "riffle/rifflelaw06.MoldCopies", spec := "moldCopies", unfollowed := true, recurses := true, apart := false, narrowed := true }
def MoldCopiesUptoSaid : Prop := moldCopiesUptoRow.holds Try.pinned (OpenSpec.upto moldCopiesSpec)

/-- 'rifflelaw06.MoldTells', WHERE WHAT IT READS IS OF BULK AT MOST 1048576: true; the input reads as it did. -/
def moldTellsUptoRow : OpenClaim := { program := "ytmfgdgmpblkadaa", sum := "bc5598866003c30dfaa9bac6d58e38d9164a8eef5d5824e53f6a38b908d3a9f0", func := "riffle/rifflelaw06.MoldTells", spec := "moldTells", unfollowed := true, recurses := true, apart := false, narrowed := true }
def MoldTellsUptoSaid : Prop := moldTellsUptoRow.holds Try.pinned (OpenSpec.upto moldTellsSpec)

/-- 'rifflelaw06.MoldBack', WHERE WHAT IT READS IS OF BULK AT MOST 1048576: true; the input reads as it did. -/
def moldBackUptoRow : OpenClaim := { program := "ytmfgdgmpblkadaa", sum := "bc5598866003c30dfaa9bac6d58e38d9164a8eef5d5824e53f6a38b908d3a9f0", func := "riffle/rifflelaw06.MoldBack", spec := "moldBack", unfollowed := true, recurses := true, apart := false, narrowed := true }
def MoldBackUptoSaid : Prop := moldBackUptoRow.holds Try.pinned (OpenSpec.upto moldBackSpec)

/-- 'rifflelaw07.CarveTakes', WHERE WHAT IT READS IS OF BULK AT MOST 1048576: true; the input reads as it did. -/
def carveTakesUptoRow : OpenClaim := { program := "ytmfgdgmpblkadaa", sum := "bc5598866003c30dfaa9bac6d58e38d9164a8eef5d5824e53f6a38b908d3a9f0", func := "riffle/rifflelaw07.CarveTakes", spec := "carveTakes", unfollowed := true, recurses := true, apart := false, narrowed := true }
def CarveTakesUptoSaid : Prop := carveTakesUptoRow.holds Try.pinned (OpenSpec.upto carveTakesSpec)

/-- 'rifflelaw07.CarveDrops', WHERE WHAT IT READS IS OF BULK AT MOST 1048576: true; the input reads as it did. -/
def carveDropsUptoRow : OpenClaim := { program := "ytmfgdgmpblkadaa", sum := "bc5598866003c30dfaa9bac6d58e38d9164a8eef5d5824e53f6a38b908d3a9f0", func := "riffle/rifflelaw07.CarveDrops", spec := "carveDrops", unfollowed := true, recurses := true, apart := false, narrowed := true }
def CarveDropsUptoSaid : Prop := carveDropsUptoRow.holds Try.pinned (OpenSpec.upto carveDropsSpec)

/-- 'rifflelaw07.CarveBack', WHERE WHAT IT READS IS OF BULK AT MOST 1048576: true; the input reads as it did. -/
def carveBackUptoRow : OpenClaim := { program := "ytmfgdgmpblkadaa", sum := "bc5598866003c30dfaa9bac6d58e38d9164a8eef5d5824e53f6a38b908d3a9f0", func := "riffle/rifflelaw07.CarveBack", spec := "carveBack", unfollowed := true, recurses := true, apart := false, narrowed := true }
def CarveBackUptoSaid : Prop := carveBackUptoRow.holds Try.pinned (OpenSpec.upto carveBackSpec)

/-- 'rifflelaw07.CarveTurns', WHERE WHAT IT READS IS OF BULK AT MOST 1048576: true; the input reads as it did. -/
def carveTurnsUptoRow : OpenClaim := { program := "ytmfgdgmpblkadaa", sum := "bc5598866003c30dfaa9bac6d58e38d9164a8eef5d5824e53f6a38b908d3a9f0", func := "riffle/rifflelaw07.CarveTurns", spec := "carveTurns", unfollowed := true, recurses := true, apart := false, narrowed := true }
def CarveTurnsUptoSaid : Prop := carveTurnsUptoRow.holds Try.pinned (OpenSpec.upto carveTurnsSpec)

/-- 'rifflelaw07.CarveParts', WHERE WHAT IT READS IS OF BULK AT MOST 1048576: true; the input reads as it did. -/
def carvePartsUptoRow : OpenClaim := { program := "ytmfgdgmpblkadaa", sum := "bc5598866003c30dfaa9bac6d58e38d9164a8eef5d5824e53f6a38b908d3a9f0", func := "riffle/rifflelaw07.CarveParts", spec := "carveParts", unfollowed := true, recurses := true, apart := false, narrowed := true }
def CarvePartsUptoSaid : Prop := carvePartsUptoRow.holds Try.pinned (OpenSpec.upto carvePartsSpec)

/-- 'rifflelaw08.FoldRows', WHERE WHAT IT READS IS OF BULK AT MOST 1048576: true; the input reads as it did. -/
def foldRowsUptoRow : OpenClaim := { program := "ytmfgdgmpblkadaa", sum := "bc5598866003c30dfaa9bac6d58e38d9164a8eef5d5824e53f6a38b908d3a9f0", func := "riffle/rifflelaw08.FoldRows", spec := "foldRows", recurses := true, apart := false, narrowed := true }
def FoldRowsUptoSaid : Prop := foldRowsUptoRow.holds Try.pinned (OpenSpec.upto foldRowsSpec)

/-- 'rifflelaw08.FoldReduces', WHERE WHAT IT READS IS OF BULK AT MOST 1048576: true; the input reads as it did. -/
def foldReducesUptoRow : OpenClaim := { program := "ytmfgdgmpblkadaa", sum := "bc5598866003c30dfaa9bac6d58e38d9164a8eef5d5824e53f6a38b908d3a9f0", func := "riffle/rifflelaw08.FoldReduces", spec := "foldReduces", unfollowed := true, recurses := true, apart := false, narrowed := true }
def FoldReducesUptoSaid : Prop := foldReducesUptoRow.holds Try.pinned (OpenSpec.upto foldReducesSpec)

/-- 'rifflelaw08.FoldScans', WHERE WHAT IT READS IS OF BULK AT MOST 1048576: true; the input reads as it did. -/
def foldScansUptoRow : OpenClaim := { program := "ytmfgdgmpblkadaa", sum := "bc5598866003c30dfaa9bac6d58e38d9164a8eef5d5824e53f6a38b908d3a9f0", func := "riffle/rifflelaw08.FoldScans", spec := "foldScans", unfollowed := true, recurses := true, apart := false, narrowed := true }
def FoldScansUptoSaid : Prop := foldScansUptoRow.holds Try.pinned (OpenSpec.upto foldScansSpec)

/-- 'rifflelaw08.FoldLast', WHERE WHAT IT READS IS OF BULK AT MOST 1048576: true; the input reads as it did. -/
def foldLastUptoRow : OpenClaim := { program := "ytmfgdgmpblkadaa", sum := "bc5598866003c30dfaa9bac6d58e38d9164a8eef5d5824e53f6a38b908d3a9f0", func := "riffle/rifflelaw08.FoldLast", spec := "foldLast", unfollowed := true, recurses := true, apart := false, narrowed := true }
def FoldLastUptoSaid : Prop := foldLastUptoRow.holds Try.pinned (OpenSpec.upto foldLastSpec)

/-- 'rifflelaw09.ProductInners', WHERE WHAT IT READS IS OF BULK AT MOST 1048576: true; the input reads as it did. -/
def productInnersUptoRow : OpenClaim := { program := "ytmfgdgmpblkadaa", sum := "bc5598866003c30dfaa9bac6d58e38d9164a8eef5d5824e53f6a38b908d3a9f0", func := "riffle/rifflelaw09.ProductInners", spec := "productInners", unfollowed := true, recurses := true, apart := false, narrowed := true }
def ProductInnersUptoSaid : Prop := productInnersUptoRow.holds Try.pinned (OpenSpec.upto productInnersSpec)

/-- 'rifflelaw09.ProductOuters', WHERE WHAT IT READS IS OF BULK AT MOST 1048576: true; the input reads as it did. -/
def productOutersUptoRow : OpenClaim := { program := "ytmfgdgmpblkadaa", sum := "bc5598866003c30dfaa9bac6d58e38d9164a8eef5d5824e53f6a38b908d3a9f0", func := "riffle/rifflelaw09.ProductOuters", spec := "productOuters", unfollowed := true, recurses := true, apart := false, narrowed := true }
def ProductOutersUptoSaid : Prop := productOutersUptoRow.holds Try.pinned (OpenSpec.upto productOutersSpec)

/-- 'rifflelaw09.ProductItems', WHERE WHAT IT READS IS OF BULK AT MOST 1048576: true; the input reads as it did. -/
def productItemsUptoRow : OpenClaim := { program := "ytmfgdgmpblkadaa", sum := "bc5598866003c30dfaa9bac6d58e38d9164a8eef5d5824e53f6a38b908d3a9f0", func := "riffle/rifflelaw09.ProductItems", spec := "productItems", unfollowed := true, recurses := true, apart := false, narrowed := true }
def ProductItemsUptoSaid : Prop := productItemsUptoRow.holds Try.pinned (OpenSpec.upto productItemsSpec)

/-- 'rifflelaw09.ProductTurns', WHERE WHAT IT READS IS OF BULK AT MOST 1048576: true; the input reads as it did. -/
def productTurnsUptoRow : OpenClaim := { program := "ytmfgdgmpblkadaa", sum := "bc5598866003c30dfaa9bac6d58e38d9164a8eef5d5824e53f6a38b908d3a9f0", func := "riffle/rifflelaw09.ProductTurns", spec := "productTurns", unfollowed := true, recurses := true, apart := false, narrowed := true }
def ProductTurnsUptoSaid : Prop := productTurnsUptoRow.holds Try.pinned (OpenSpec.upto productTurnsSpec)

end Rows
end Go.Proofs.Ytmfgdgmpblkadaa
