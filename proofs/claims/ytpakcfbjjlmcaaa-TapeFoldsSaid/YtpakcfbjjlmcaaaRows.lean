/-
  No cell of these rows narrows 'for every input' (looked for: loops, veiled, ifaces, maps, wideKeys, modest, calm, conditions, laid).
  DERIVED. THE GIVEN ROWS OF THIS SEAT. 12 by the template 'for every input the law returns true; each argument reads behind the call as it read before'; 0 by the template 'total and deterministic' (their statements: YtpakcfbjjlmcaaaTotals.lean).
  GIVEN WITH THE SEED: the statements are not yours to turn. If you find one false, say at which input.
  Laid BY PROGRAM, IN A SANDBOX (cutbox-rows.mjs): the forced cells as the released guide's own fill.sh prints them over the translation b31aa5f2540d6484… (all of the seat's roots in one cut). By AI agents, Wed Nov 11 2026. No macro, syntax, notation, axiom, sorry.
-/
import Derived.Test.YtpakcfbjjlmcaaaChecked
import GoSem.Claim
import GoSem.ClaimJoined
import GoSem.ClaimMapViews
import Derived.JoinedTies
import Derived.KernelRfl
namespace Go.Proofs.Ytpakcfbjjlmcaaa
/- THE CELL 'sum', in the pinned program and in every row, IS THE sha256 OF THE DUMP (.gsa) THAT YtpakcfbjjlmcaaaProg.lean LOADS. Nothing in Lean hashes anything: it is a label: what it is worth is what the hold of that sum in a sandbox is worth. -/
noncomputable def Try.pinned : Pinned := { name := "ytpakcfbjjlmcaaa", sum := "b31aa5f2540d6484623028b70c832a156bfae2f4b9af048489f02bfe4cde9e7b", checked := Try.checked }
namespace Rows
def none {H : Type} : Left H := { results := [], args := [] }

/-- 'rifflelaw11.RingOrder': WHATEVER THE INPUT: true; the input reads as it did. -/
def ringOrderSpec : ChangeSpec := { name := "ringOrder", fn := fun _ => fun
  | [d1, d2] => { results := [.lit (.bool true)], args := [d1, d2] }
  | _ => none }
def ringOrderRow : OpenClaim := { program := "ytpakcfbjjlmcaaa", sum := "b31aa5f2540d6484623028b70c832a156bfae2f4b9af048489f02bfe4cde9e7b", func := "riffle/rifflelaw11.RingOrder", spec := "ringOrder", apart := false }
def RingOrderSaid : Prop := ringOrderRow.holds Try.pinned (OpenSpec.ofChange ringOrderSpec)

/-- ITS FALSE NEIGHBOUR: 'it returns false'. Refute it at one input. -/
def ringOrderWrong : ChangeSpec := { name := "ringOrder", fn := fun _ => fun
  | [d1, d2] => { results := [.lit (.bool false)], args := [d1, d2] }
  | _ => none }
def RingOrderWrongFalsely : Prop := ringOrderRow.holds Try.pinned (OpenSpec.ofChange ringOrderWrong)

/-- 'rifflelaw11.RingPlays': WHATEVER THE INPUT: true; the input reads as it did. -/
def ringPlaysSpec : ChangeSpec := { name := "ringPlays", fn := fun _ => fun
  | [d1, d2, d3] => { results := [.lit (.bool true)], args := [d1, d2, d3] }
  | _ => none }
def ringPlaysRow : OpenClaim := { program := "ytpakcfbjjlmcaaa", sum := "b31aa5f2540d6484623028b70c832a156bfae2f4b9af048489f02bfe4cde9e7b", func := "riffle/rifflelaw11.RingPlays", spec := "ringPlays", apart := false }
def RingPlaysSaid : Prop := ringPlaysRow.holds Try.pinned (OpenSpec.ofChange ringPlaysSpec)

/-- ITS FALSE NEIGHBOUR: 'it returns false'. Refute it at one input. -/
def ringPlaysWrong : ChangeSpec := { name := "ringPlays", fn := fun _ => fun
  | [d1, d2, d3] => { results := [.lit (.bool false)], args := [d1, d2, d3] }
  | _ => none }
def RingPlaysWrongFalsely : Prop := ringPlaysRow.holds Try.pinned (OpenSpec.ofChange ringPlaysWrong)

/-- 'rifflelaw11.RingApart': WHATEVER THE INPUT: true; the input reads as it did. -/
def ringApartSpec : ChangeSpec := { name := "ringApart", fn := fun _ => fun
  | [d1, d2] => { results := [.lit (.bool true)], args := [d1, d2] }
  | _ => none }
def ringApartRow : OpenClaim := { program := "ytpakcfbjjlmcaaa", sum := "b31aa5f2540d6484623028b70c832a156bfae2f4b9af048489f02bfe4cde9e7b", func := "riffle/rifflelaw11.RingApart", spec := "ringApart", apart := false }
def RingApartSaid : Prop := ringApartRow.holds Try.pinned (OpenSpec.ofChange ringApartSpec)

/-- ITS FALSE NEIGHBOUR: 'it returns false'. Refute it at one input. -/
def ringApartWrong : ChangeSpec := { name := "ringApart", fn := fun _ => fun
  | [d1, d2] => { results := [.lit (.bool false)], args := [d1, d2] }
  | _ => none }
def RingApartWrongFalsely : Prop := ringApartRow.holds Try.pinned (OpenSpec.ofChange ringApartWrong)

/-- 'rifflelaw12.TwinPlays': WHATEVER THE INPUT: true; the input reads as it did. -/
def twinPlaysSpec : ChangeSpec := { name := "twinPlays", fn := fun _ => fun
  | [d1, d2] => { results := [.lit (.bool true)], args := [d1, d2] }
  | _ => none }
def twinPlaysRow : OpenClaim := { program := "ytpakcfbjjlmcaaa", sum := "b31aa5f2540d6484623028b70c832a156bfae2f4b9af048489f02bfe4cde9e7b", func := "riffle/rifflelaw12.TwinPlays", spec := "twinPlays", unfollowed := true, recurses := true, apart := false }
def TwinPlaysSaid : Prop := twinPlaysRow.holds Try.pinned (OpenSpec.ofChange twinPlaysSpec)

/-- ITS FALSE NEIGHBOUR: 'it returns false'. Refute it at one input. -/
def twinPlaysWrong : ChangeSpec := { name := "twinPlays", fn := fun _ => fun
  | [d1, d2] => { results := [.lit (.bool false)], args := [d1, d2] }
  | _ => none }
def TwinPlaysWrongFalsely : Prop := twinPlaysRow.holds Try.pinned (OpenSpec.ofChange twinPlaysWrong)

/-- 'rifflelaw12.TwinSums': WHATEVER THE INPUT: true; the input reads as it did. -/
def twinSumsSpec : ChangeSpec := { name := "twinSums", fn := fun _ => fun
  | [d1, d2] => { results := [.lit (.bool true)], args := [d1, d2] }
  | _ => none }
def twinSumsRow : OpenClaim := { program := "ytpakcfbjjlmcaaa", sum := "b31aa5f2540d6484623028b70c832a156bfae2f4b9af048489f02bfe4cde9e7b", func := "riffle/rifflelaw12.TwinSums", spec := "twinSums", unfollowed := true, recurses := true, apart := false }
def TwinSumsSaid : Prop := twinSumsRow.holds Try.pinned (OpenSpec.ofChange twinSumsSpec)

/-- ITS FALSE NEIGHBOUR: 'it returns false'. Refute it at one input. -/
def twinSumsWrong : ChangeSpec := { name := "twinSums", fn := fun _ => fun
  | [d1, d2] => { results := [.lit (.bool false)], args := [d1, d2] }
  | _ => none }
def TwinSumsWrongFalsely : Prop := twinSumsRow.holds Try.pinned (OpenSpec.ofChange twinSumsWrong)

/-- 'rifflelaw12.TwinApart': WHATEVER THE INPUT: true; the input reads as it did. -/
def twinApartSpec : ChangeSpec := { name := "twinApart", fn := fun _ => fun
  | [d1, d2] => { results := [.lit (.bool true)], args := [d1, d2] }
  | _ => none }
def twinApartRow : OpenClaim := { program := "ytpakcfbjjlmcaaa", sum := "b31aa5f2540d6484623028b70c832a156bfae2f4b9af048489f02bfe4cde9e7b", func := "riffle/rifflelaw12.TwinApart", spec := "twinApart", unfollowed := true, recurses := true, apart := false }
def TwinApartSaid : Prop := twinApartRow.holds Try.pinned (OpenSpec.ofChange twinApartSpec)

/-- ITS FALSE NEIGHBOUR: 'it returns false'. Refute it at one input. -/
def twinApartWrong : ChangeSpec := { name := "twinApart", fn := fun _ => fun
  | [d1, d2] => { results := [.lit (.bool false)], args := [d1, d2] }
  | _ => none }
def TwinApartWrongFalsely : Prop := twinApartRow.holds Try.pinned (OpenSpec.ofChange twinApartWrong)

/-- 'rifflelaw13.DequePlays': WHATEVER THE INPUT: true; the input reads as it did. -/
def dequePlaysSpec : ChangeSpec := { name := "dequePlays", fn := fun _ => fun
  | [d1, d2, d3] => { results := [.lit (.bool true)], args := [d1, d2, d3] }
  | _ => none }
def dequePlaysRow : OpenClaim := { program := "ytpakcfbjjlmcaaa", sum := "b31aa5f2540d6484623028b70c832a156bfae2f4b9af048489f02bfe4cde9e7b", func := "riffle/rifflelaw13.DequePlays", spec := "dequePlays", unfollowed := true, recurses := true, apart := false }
def DequePlaysSaid : Prop := dequePlaysRow.holds Try.pinned (OpenSpec.ofChange dequePlaysSpec)

/-- ITS FALSE NEIGHBOUR: 'it returns false'. Refute it at one input. -/
def dequePlaysWrong : ChangeSpec := { name := "dequePlays", fn := fun _ => fun
  | [d1, d2, d3] => { results := [.lit (.bool false)], args := [d1, d2, d3] }
  | _ => none }
def DequePlaysWrongFalsely : Prop := dequePlaysRow.holds Try.pinned (OpenSpec.ofChange dequePlaysWrong)

/-- 'rifflelaw13.DequeSlides': WHATEVER THE INPUT: true; the input reads as it did. -/
def dequeSlidesSpec : ChangeSpec := { name := "dequeSlides", fn := fun _ => fun
  | [d1, d2, d3] => { results := [.lit (.bool true)], args := [d1, d2, d3] }
  | _ => none }
def dequeSlidesRow : OpenClaim := { program := "ytpakcfbjjlmcaaa", sum := "b31aa5f2540d6484623028b70c832a156bfae2f4b9af048489f02bfe4cde9e7b", func := "riffle/rifflelaw13.DequeSlides", spec := "dequeSlides", unfollowed := true, recurses := true, apart := false }
def DequeSlidesSaid : Prop := dequeSlidesRow.holds Try.pinned (OpenSpec.ofChange dequeSlidesSpec)

/-- ITS FALSE NEIGHBOUR: 'it returns false'. Refute it at one input. -/
def dequeSlidesWrong : ChangeSpec := { name := "dequeSlides", fn := fun _ => fun
  | [d1, d2, d3] => { results := [.lit (.bool false)], args := [d1, d2, d3] }
  | _ => none }
def DequeSlidesWrongFalsely : Prop := dequeSlidesRow.holds Try.pinned (OpenSpec.ofChange dequeSlidesWrong)

/-- 'rifflelaw13.DequeApart': WHATEVER THE INPUT: true; the input reads as it did. -/
def dequeApartSpec : ChangeSpec := { name := "dequeApart", fn := fun _ => fun
  | [d1, d2, d3] => { results := [.lit (.bool true)], args := [d1, d2, d3] }
  | _ => none }
def dequeApartRow : OpenClaim := { program := "ytpakcfbjjlmcaaa", sum := "b31aa5f2540d6484623028b70c832a156bfae2f4b9af048489f02bfe4cde9e7b", func := "riffle/rifflelaw13.DequeApart", spec := "dequeApart", unfollowed := true, recurses := true, apart := false }
def DequeApartSaid : Prop := dequeApartRow.holds Try.pinned (OpenSpec.ofChange dequeApartSpec)

/-- ITS FALSE NEIGHBOUR: 'it returns false'. Refute it at one input. -/
def dequeApartWrong : ChangeSpec := { name := "dequeApart", fn := fun _ => fun
  | [d1, d2, d3] => { results := [.lit (.bool false)], args := [d1, d2, d3] }
  | _ => none }
def DequeApartWrongFalsely : Prop := dequeApartRow.holds Try.pinned (OpenSpec.ofChange dequeApartWrong)

/-- 'rifflelaw16.TapeFolds': WHATEVER THE INPUT: true; the input reads as it did. -/
def tapeFoldsSpec : ChangeSpec := { name := "tapeFolds", fn := fun _ => fun
  | [d] => { results := [.lit (.bool true)], args := [d] }
  | _ => none }
def tapeFoldsRow : OpenClaim := { program := "ytpakcfbjjlmcaaa", sum := "b31aa5f2540d6484623028b70c832a156bfae2f4b9af048489f02bfe4cde9e7b", func := "riffle/rifflelaw16.TapeFolds", spec := "tapeFolds", apart := false }
def TapeFoldsSaid : Prop := tapeFoldsRow.holds Try.pinned (OpenSpec.ofChange tapeFoldsSpec)

/-- ITS FALSE NEIGHBOUR: 'it returns false'. Refute it at one input. -/
def tapeFoldsWrong : ChangeSpec := { name := "tapeFolds", fn := fun _ => fun
  | [d] => { results := [.lit (.bool false)], args := [d] }
  | _ => none }
def TapeFoldsWrongFalsely : Prop := tapeFoldsRow.holds Try.pinned (OpenSpec.ofChange tapeFoldsWrong)

/-- 'rifflelaw16.TapePlays': WHATEVER THE INPUT: true; the input reads as it did. -/
def tapePlaysSpec : ChangeSpec := { name := "tapePlays", fn := fun _ => fun
  | [d1, d2] => { results := [.lit (.bool true)], args := [d1, d2] }
  | _ => none }
def tapePlaysRow : OpenClaim := { program := "ytpakcfbjjlmcaaa", sum := "b31aa5f2540d6484623028b70c832a156bfae2f4b9af048489f02bfe4cde9e7b", func := "riffle/rifflelaw16.TapePlays", spec := "tapePlays", apart := false }
def TapePlaysSaid : Prop := tapePlaysRow.holds Try.pinned (OpenSpec.ofChange tapePlaysSpec)

/-- ITS FALSE NEIGHBOUR: 'it returns false'. Refute it at one input. -/
def tapePlaysWrong : ChangeSpec := { name := "tapePlays", fn := fun _ => fun
  | [d1, d2] => { results := [.lit (.bool false)], args := [d1, d2] }
  | _ => none }
def TapePlaysWrongFalsely : Prop := tapePlaysRow.holds Try.pinned (OpenSpec.ofChange tapePlaysWrong)

/-- 'rifflelaw16.TapeApart': WHATEVER THE INPUT: true; the input reads as it did. -/
def tapeApartSpec : ChangeSpec := { name := "tapeApart", fn := fun _ => fun
  | [d1, d2] => { results := [.lit (.bool true)], args := [d1, d2] }
  | _ => none }
def tapeApartRow : OpenClaim := { program := "ytpakcfbjjlmcaaa", sum := "b31aa5f2540d6484623028b70c832a156bfae2f4b9af048489f02bfe4cde9e7b", func := "riffle/rifflelaw16.TapeApart", spec := "tapeApart", apart := false }
def TapeApartSaid : Prop := tapeApartRow.holds Try.pinned (OpenSpec.ofChange tapeApartSpec)

/-- ITS FALSE NEIGHBOUR: 'it returns false'. Refute it at one input. -/
def tapeApartWrong : ChangeSpec := { name := "tapeApart", fn := fun _ => fun
  | [d1, d2] => { results := [.lit (.bool false)], args := [d1, d2] }
  | _ => none }
def TapeApartWrongFalsely : Prop := tapeApartRow.holds Try.pinned (OpenSpec.ofChange tapeApartWrong)

/- THE SECOND FORM. 'bulk': how many values and letters a reading holds, each counted each time it is reached (what is shared counts as often as it is met; a slice's spare places count too). A statement '..UptoSaid' is the law's where the arguments, and the package variables that the reading takes, are together of bulk at most 1048576: NARROWER than '..Said'. Prove '..Said' where nothing that the law and all that it calls make is longer than what came in: it says more and counts as full. Else prove '..UptoSaid'. A law counts once. -/
mutual
def uptoBulk {H : Type} : DataW H → Nat
  | .lit (.string bytes) => bytes.length + 1
  | .lit _ => 1
  | .nil => 1
  | .ptr d => uptoBulk d + 1
  | .slice elems spare => uptoBulkAll elems + uptoBulkAll spare + 1
  | .agg parts => uptoBulkAll parts + 1
  | .iface _ d => uptoBulk d + 1
  | .map entries => uptoBulkEntries entries + 1
  | .held _ => 1
def uptoBulkAll {H : Type} : List (DataW H) → Nat
  | [] => 0
  | d :: r => uptoBulk d + uptoBulkAll r
def uptoBulkEntries {H : Type} : List (Lit × DataW H) → Nat
  | [] => 0
  | x :: r => uptoBulkEntry x + uptoBulkEntries r
def uptoBulkEntry {H : Type} : Lit × DataW H → Nat
  | (.string bytes, d) => bytes.length + uptoBulk d + 1
  | (_, d) => uptoBulk d + 1
 end
def uptoSmall : (H : Type) → List (DataW H) → Bool := fun _ ds => decide (uptoBulkAll ds ≤ 1048576)
def OpenSpec.upto (s : _root_.Go.ChangeSpec) : _root_.Go.OpenSpec := { _root_.Go.OpenSpec.ofChange s with cond := some uptoSmall }

/-- 'rifflelaw11.RingOrder', WHERE WHAT IT READS IS OF BULK AT MOST 1048576: true; the input reads as it did. -/
def ringOrderUptoRow : OpenClaim := { program := "ytpakcfbjjlmcaaa", sum := "b31aa5f2540d6484623028b70c832a156bfae2f4b9af048489f02bfe4cde9e7b", func := "riffle/rifflelaw11.RingOrder", spec := "ringOrder", apart := false, narrowed := true }
def RingOrderUptoSaid : Prop := ringOrderUptoRow.holds Try.pinned (OpenSpec.upto ringOrderSpec)

/-- 'rifflelaw11.RingPlays', WHERE WHAT IT READS IS OF BULK AT MOST 1048576: true; the input reads as it did. -/
def ringPlaysUptoRow : OpenClaim := { program := "ytpakcfbjjlmcaaa", sum := "b31aa5f2540d6484623028b70c832a156bfae2f4b9af048489f02bfe4cde9e7b", func := "riffle/rifflelaw11.RingPlays", spec := "ringPlays", apart := false, narrowed := true }
def RingPlaysUptoSaid : Prop := ringPlaysUptoRow.holds Try.pinned (OpenSpec.upto ringPlaysSpec)

/-- 'rifflelaw11.RingApart', WHERE WHAT IT READS IS OF BULK AT MOST 1048576: true; the input reads as it did. -/
def ringApartUptoRow : OpenClaim := { program := "ytpakcfbjjlmcaaa", sum := "b31aa5f2540d6484623028b70c832a156bfae2f4b9af048489f02bfe4cde9e7b", func := "riffle/rifflelaw11.RingApart", spec := "ringApart", apart := false, narrowed := true }
def RingApartUptoSaid : Prop := ringApartUptoRow.holds Try.pinned (OpenSpec.upto ringApartSpec)

/-- 'rifflelaw12.TwinPlays', WHERE WHAT IT READS IS OF BULK AT MOST 1048576: true; the input reads as it did. -/
def twinPlaysUptoRow : OpenClaim := { program := "ytpakcfbjjlmcaaa", sum := "b31aa5f2540d6484623028b70c832a156bfae2f4b9af048489f02bfe4cde9e7b", func := "riffle/rifflelaw12.TwinPlays", spec := "twinPlays", unfollowed := true, recurses := true, apart := false, narrowed := true }
def TwinPlaysUptoSaid : Prop := twinPlaysUptoRow.holds Try.pinned (OpenSpec.upto twinPlaysSpec)

/-- 'rifflelaw12.TwinSums', WHERE WHAT IT READS IS OF BULK AT MOST 1048576: true; the input reads as it did. -/
def twinSumsUptoRow : OpenClaim := { program := "ytpakcfbjjlmcaaa", sum := "b31aa5f2540d6484623028b70c832a156bfae2f4b9af048489f02bfe4cde9e7b", func := "riffle/rifflelaw12.TwinSums", spec := "twinSums", unfollowed := true, recurses := true, apart := false, narrowed := true }
def TwinSumsUptoSaid : Prop := twinSumsUptoRow.holds Try.pinned (OpenSpec.upto twinSumsSpec)

/-- 'rifflelaw12.TwinApart', WHERE WHAT IT READS IS OF BULK AT MOST 1048576: true; the input reads as it did. -/
def twinApartUptoRow : OpenClaim := { program := "ytpakcfbjjlmcaaa", sum := "b31aa5f2540d6484623028b70c832a156bfae2f4b9af048489f02bfe4cde9e7b", func := "riffle/rifflelaw12.TwinApart", spec := "twinApart", unfollowed := true, recurses := true, apart := false, narrowed := true }
def TwinApartUptoSaid : Prop := twinApartUptoRow.holds Try.pinned (OpenSpec.upto twinApartSpec)

/-- 'rifflelaw13.DequePlays', WHERE WHAT IT READS IS OF BULK AT MOST 1048576: true; the input reads as it did. -/
def dequePlaysUptoRow : OpenClaim := { program := "ytpakcfbjjlmcaaa", sum := "b31aa5f2540d6484623028b70c832a156bfae2f4b9af048489f02bfe4cde9e7b", func := "riffle/rifflelaw13.DequePlays", spec := "dequePlays", unfollowed := true, recurses := true, apart := false, narrowed := true }
def DequePlaysUptoSaid : Prop := dequePlaysUptoRow.holds Try.pinned (OpenSpec.upto dequePlaysSpec)

/-- 'rifflelaw13.DequeSlides', WHERE WHAT IT READS IS OF BULK AT MOST 1048576: true; the input reads as it did. -/
def dequeSlidesUptoRow : OpenClaim := { program := "ytpakcfbjjlmcaaa", sum := "b31aa5f2540d6484623028b70c832a156bfae2f4b9af048489f02bfe4cde9e7b", func := "riffle/rifflelaw13.DequeSlides", spec := "dequeSlides", unfollowed := true, recurses := true, apart := false, narrowed := true }
def DequeSlidesUptoSaid : Prop := dequeSlidesUptoRow.holds Try.pinned (OpenSpec.upto dequeSlidesSpec)

/-- 'rifflelaw13.DequeApart', WHERE WHAT IT READS IS OF BULK AT MOST 1048576: true; the input reads as it did. -/
def dequeApartUptoRow : OpenClaim := { program := "ytpakcfbjjlmcaaa", sum := "b31aa5f2540d6484623028b70c832a156bfae2f4b9af048489f02bfe4cde9e7b", func := "riffle/rifflelaw13.DequeApart", spec := "dequeApart", unfollowed := true, recurses := true, apart := false, narrowed := true }
def DequeApartUptoSaid : Prop := dequeApartUptoRow.holds Try.pinned (OpenSpec.upto dequeApartSpec)

/-- 'rifflelaw16.TapeFolds', WHERE WHAT IT READS IS OF BULK AT MOST 1048576: true; the input reads as it did. -/
def tapeFoldsUptoRow : OpenClaim := { program := "ytpakcfbjjlmcaaa", sum := "b31aa5f2540d6484623028b70c832a156bfae2f4b9af048489f02bfe4cde9e7b", func := "riffle/rifflelaw16.TapeFolds", spec := "tapeFolds", apart := false, narrowed := true }
def TapeFoldsUptoSaid : Prop := tapeFoldsUptoRow.holds Try.pinned (OpenSpec.upto tapeFoldsSpec)

/-- 'rifflelaw16.TapePlays', WHERE WHAT IT READS IS OF BULK AT MOST 1048576: true; the input reads as it did. -/
def tapePlaysUptoRow : OpenClaim := { program := "ytpakcfbjjlmcaaa", sum := "b31aa5f2540d6484623028b70c832a156bfae2f4b9af048489f02bfe4cde9e7b", func := "riffle/rifflelaw16.TapePlays", spec := "tapePlays", apart := false, narrowed := true }
def TapePlaysUptoSaid : Prop := tapePlaysUptoRow.holds Try.pinned (OpenSpec.upto tapePlaysSpec)

/-- 'rifflelaw16.TapeApart', WHERE WHAT IT READS IS OF BULK AT MOST 1048576: true; the input reads as it did. -/
def tapeApartUptoRow : OpenClaim := { program := "ytpakcfbjjlmcaaa", sum := "b31aa5f2540d6484623028b70c832a156bfae2f4b9af048489f02bfe4cde9e7b", func := "riffle/rifflelaw16.TapeApart", spec := "tapeApart", apart := false, narrowed := true }
def TapeApartUptoSaid : Prop := tapeApartUptoRow.holds Try.pinned (OpenSpec.upto tapeApartSpec)

end Rows
end Go.Proofs.Ytpakcfbjjlmcaaa
