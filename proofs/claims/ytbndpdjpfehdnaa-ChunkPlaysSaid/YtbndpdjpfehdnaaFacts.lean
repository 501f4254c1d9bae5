/- Closed facts of this seat's program: the row of its cut, and what it says. No condition. -/
import Derived.Test.YtbndpdjpfehdnaaRows
import Derived.WalkKit
import Derived.ProofKit
namespace Go.Proofs.Ytbndpdjpfehdnaa.Facts
open Go.ChangeShapes Go.WideShapes Go.ChangeAt Go.RowKit
set_option maxRecDepth 1000000
def signs : List Char := [Char.ofNat 104, Char.ofNat 97, Char.ofNat 114, Char.ofNat 110, Char.ofNat 101, Char.ofNat 115, Char.ofNat 115, Char.ofNat 32, Char.ofNat 48, Char.ofNat 100, Char.ofNat 53, Char.ofNat 50, Char.ofNat 52, Char.ofNat 97, Char.ofNat 98, Char.ofNat 55, Char.ofNat 56, Char.ofNat 48, Char.ofNat 55, Char.ofNat 100, Char.ofNat 97, Char.ofNat 100, Char.ofNat 52, Char.ofNat 57, Char.ofNat 99, Char.ofNat 53, Char.ofNat 54, Char.ofNat 100, Char.ofNat 99, Char.ofNat 102, Char.ofNat 101, Char.ofNat 56, Char.ofNat 50, Char.ofNat 49, Char.ofNat 102, Char.ofNat 50, Char.ofNat 53, Char.ofNat 100, Char.ofNat 55, Char.ofNat 98, Char.ofNat 100, Char.ofNat 55, Char.ofNat 101, Char.ofNat 50, Char.ofNat 100, Char.ofNat 50, Char.ofNat 98, Char.ofNat 54, Char.ofNat 54, Char.ofNat 53, Char.ofNat 101, Char.ofNat 102, Char.ofNat 52, Char.ofNat 56, Char.ofNat 97, Char.ofNat 57, Char.ofNat 100, Char.ofNat 99, Char.ofNat 57, Char.ofNat 51, Char.ofNat 53, Char.ofNat 53, Char.ofNat 98, Char.ofNat 55, Char.ofNat 51, Char.ofNat 48, Char.ofNat 97, Char.ofNat 97, Char.ofNat 102, Char.ofNat 56, Char.ofNat 55, Char.ofNat 54, Char.ofNat 32, Char.ofNat 99, Char.ofNat 117, Char.ofNat 116, Char.ofNat 32, Char.ofNat 97, Char.ofNat 116, Char.ofNat 32, Char.ofNat 114, Char.ofNat 105, Char.ofNat 102, Char.ofNat 102, Char.ofNat 108, Char.ofNat 101, Char.ofNat 47, Char.ofNat 114, Char.ofNat 105, Char.ofNat 102, Char.ofNat 102, Char.ofNat 108, Char.ofNat 101, Char.ofNat 108, Char.ofNat 97, Char.ofNat 119, Char.ofNat 51, Char.ofNat 52, Char.ofNat 46, Char.ofNat 67, Char.ofNat 104, Char.ofNat 117, Char.ofNat 110, Char.ofNat 107, Char.ofNat 80, Char.ofNat 108, Char.ofNat 97, Char.ofNat 121, Char.ofNat 115, Char.ofNat 32, Char.ofNat 114, Char.ofNat 105, Char.ofNat 102, Char.ofNat 102, Char.ofNat 108, Char.ofNat 101, Char.ofNat 47, Char.ofNat 114, Char.ofNat 105, Char.ofNat 102, Char.ofNat 102, Char.ofNat 108, Char.ofNat 101, Char.ofNat 108, Char.ofNat 97, Char.ofNat 119, Char.ofNat 51, Char.ofNat 52, Char.ofNat 46, Char.ofNat 67, Char.ofNat 104, Char.ofNat 117, Char.ofNat 110, Char.ofNat 107, Char.ofNat 80, Char.ofNat 105, Char.ofNat 101, Char.ofNat 99, Char.ofNat 101, Char.ofNat 115, Char.ofNat 32, Char.ofNat 114, Char.ofNat 105, Char.ofNat 102, Char.ofNat 102, Char.ofNat 108, Char.ofNat 101, Char.ofNat 47, Char.ofNat 114, Char.ofNat 105, Char.ofNat 102, Char.ofNat 102, Char.ofNat 108, Char.ofNat 101, Char.ofNat 108, Char.ofNat 97, Char.ofNat 119, Char.ofNat 51, Char.ofNat 52, Char.ofNat 46, Char.ofNat 67, Char.ofNat 104, Char.ofNat 117, Char.ofNat 110, Char.ofNat 107, Char.ofNat 65, Char.ofNat 112, Char.ofNat 97, Char.ofNat 114, Char.ofNat 116]
theorem order_list : Try.prog.initOrder.toList = signs := by
  rw [show Try.prog.initOrder = String.ofList signs from by kernel_rfl]
  exact String.toList_ofList
theorem head_cut : (behindMainWord (wordsSigns signs)).head? = some "cut".toList := by kernel_rfl
theorem cut_cons : behindMainWord (wordsSigns Try.prog.initOrder.toList) = "cut".toList :: (behindMainWord (wordsSigns signs)).tail := by
  rw [order_list]
  have h := head_cut
  generalize behindMainWord (wordsSigns signs) = l at h
  cases l with
  | nil => cases h
  | cons a l => rw [List.tail_cons, Option.some.inj h]
theorem make_of {P : Program} {R : List (List Char)} (h : behindMainWord (wordsSigns P.initOrder.toList) = "cut".toList :: R) : P.make = some .cut := by
  unfold Program.make
  rw [h]
  rfl
theorem strip_cut (R : List (List Char)) : stripLifts liftWords ("cut".toList :: R) = ([], "cut".toList :: R) := by rfl
theorem lifts_of {P : Program} {R : List (List Char)} (h : behindMainWord (wordsSigns P.initOrder.toList) = "cut".toList :: R) : P.liftsFinal = false := by
  unfold Program.liftsFinal Program.headLifts
  rw [h]
  dsimp only
  rw [strip_cut]
  rfl
theorem enters_of {P : Program} {R : List (List Char)} (h : behindMainWord (wordsSigns P.initOrder.toList) = "cut".toList :: R) (h1 : P.laysLater = false) (h2 : P.bearsReflect = false) (h3 : P.doorRows = []) : P.mayEnter = true := by
  unfold Program.mayEnter
  rw [h]
  dsimp only
  rw [strip_cut, h1, h2]
  unfold Program.doorFits
  rw [h3]
  rfl
theorem later : Try.prog.laysLater = false := by kernel_rfl
theorem reflects : Try.prog.bearsReflect = false := by kernel_rfl
theorem doors : Try.prog.doorRows = [] := by kernel_rfl
theorem enters : Try.prog.mayEnter = true := enters_of cut_cons later reflects doors
theorem lifts : Try.prog.liftsFinal = false := lifts_of cut_cons
theorem made : Try.prog.make = some .cut := make_of cut_cons
theorem laidOut : laidOutB Try.prog = true := by kernel_rfl
theorem rowed : mapsRowed Try.prog = true := by kernel_rfl
theorem heard : Try.prog.stopsHeard = true := by kernel_rfl
theorem own : ownKnob Try.prog.godebug = none := by kernel_rfl
end Go.Proofs.Ytbndpdjpfehdnaa.Facts
