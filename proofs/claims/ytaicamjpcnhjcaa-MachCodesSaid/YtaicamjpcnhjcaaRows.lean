/-
  NARROWER THAN 'FOR EVERY INPUT', by the rows' own cells (each row's printed sentence says how): TopShapes: loops · ShapeChecks: loops · ShapeFlats: loops · ShapeRuns: loops.
  DERIVED. THE GIVEN ROWS OF THIS SEAT. 17 by the template 'for every input the law returns true; each argument reads behind the call as it read before'; 0 by the template 'total and deterministic' (their statements: YtaicamjpcnhjcaaTotals.lean).
  GIVEN WITH THE SEED: the statements are not yours to turn. If you find one false, say at which input.
  Laid BY PROGRAM, IN A SANDBOX (cutbox-rows.mjs): the forced cells as the released guide's own fill.sh prints them over the translation 3e4240edc0560bf7… (all of the seat's roots in one cut). By AI agents, Wed Nov 11 2026. No macro, syntax, notation, axiom, sorry.
-/
import Derived.Test.YtaicamjpcnhjcaaChecked
import GoSem.Claim
import GoSem.ClaimJoined
import GoSem.ClaimMapViews
import Derived.JoinedTies
import Derived.KernelRfl
namespace Go.Proofs.Ytaicamjpcnhjcaa
/- THE CELL 'sum', in the pinned program and in every row, IS THE sha256 OF THE DUMP (.gsa) THAT YtaicamjpcnhjcaaProg.lean LOADS. Nothing in Lean hashes anything: it is a label: what it is worth is what the hold of that sum in a sandbox is worth. -/
noncomputable def Try.pinned : Pinned := { name := "ytaicamjpcnhjcaa", sum := "3e4240edc0560bf7df3b655c0636ae53e7e2f92af31905c1e085fb9560d2c1e2", checked := Try.checked }
namespace Rows
def none {H : Type} : Left H := { results := [], args := [] }

/-- 'codemasontop.TopShapes': WHATEVER THE INPUT: true; the input reads as it did. -/
def topShapesSpec : ChangeSpec := { name := "topShapes", fn := fun _ => fun
  | [d1, d2, d3] => { results := [.lit (.bool true)], args := [d1, d2, d3] }
  | _ => none }
def topShapesRow : OpenClaim := { program := "ytaicamjpcnhjcaa", sum := "3e4240edc0560bf7df3b655c0636ae53e7e2f92af31905c1e085fb9560d2c1e2", func := "codemason/codemasontop.TopShapes", spec := "topShapes", unfollowed := true, recurses := true, loops := true, apart := false }
def TopShapesSaid : Prop := topShapesRow.holds Try.pinned (OpenSpec.ofChange topShapesSpec)

/-- ITS FALSE NEIGHBOUR: 'it returns false'. Refute it at one input. -/
def topShapesWrong : ChangeSpec := { name := "topShapes", fn := fun _ => fun
  | [d1, d2, d3] => { results := [.lit (.bool false)], args := [d1, d2, d3] }
  | _ => none }
def TopShapesWrongFalsely : Prop := topShapesRow.holds Try.pinned (OpenSpec.ofChange topShapesWrong)

/-- 'codemasontop.TopSlice': WHATEVER THE INPUT: true; the input reads as it did. -/
def topSliceSpec : ChangeSpec := { name := "topSlice", fn := fun _ => fun
  | [d1, d2, d3, d4] => { results := [.lit (.bool true)], args := [d1, d2, d3, d4] }
  | _ => none }
def topSliceRow : OpenClaim := { program := "ytaicamjpcnhjcaa", sum := "3e4240edc0560bf7df3b655c0636ae53e7e2f92af31905c1e085fb9560d2c1e2", func := "codemason/codemasontop.TopSlice", spec := "topSlice", unfollowed := true, recurses := true, apart := false }
def TopSliceSaid : Prop := topSliceRow.holds Try.pinned (OpenSpec.ofChange topSliceSpec)

/-- ITS FALSE NEIGHBOUR: 'it returns false'. Refute it at one input. -/
def topSliceWrong : ChangeSpec := { name := "topSlice", fn := fun _ => fun
  | [d1, d2, d3, d4] => { results := [.lit (.bool false)], args := [d1, d2, d3, d4] }
  | _ => none }
def TopSliceWrongFalsely : Prop := topSliceRow.holds Try.pinned (OpenSpec.ofChange topSliceWrong)

/-- 'codemasonlaw.ShapeBuilds': WHATEVER THE INPUT: true; the input reads as it did. -/
def shapeBuildsSpec : ChangeSpec := { name := "shapeBuilds", fn := fun _ => fun
  | [d1, d2, d3] => { results := [.lit (.bool true)], args := [d1, d2, d3] }
  | _ => none }
def shapeBuildsRow : OpenClaim := { program := "ytaicamjpcnhjcaa", sum := "3e4240edc0560bf7df3b655c0636ae53e7e2f92af31905c1e085fb9560d2c1e2", func := "codemason/codemasonlaw.ShapeBuilds", spec := "shapeBuilds", unfollowed := true, recurses := true, apart := false }
def ShapeBuildsSaid : Prop := shapeBuildsRow.holds Try.pinned (OpenSpec.ofChange shapeBuildsSpec)

/-- ITS FALSE NEIGHBOUR: 'it returns false'. Refute it at one input. -/
def shapeBuildsWrong : ChangeSpec := { name := "shapeBuilds", fn := fun _ => fun
  | [d1, d2, d3] => { results := [.lit (.bool false)], args := [d1, d2, d3] }
  | _ => none }
def ShapeBuildsWrongFalsely : Prop := shapeBuildsRow.holds Try.pinned (OpenSpec.ofChange shapeBuildsWrong)

/-- 'codemasonlaw.HoldPlays': WHATEVER THE INPUT: true; the input reads as it did. -/
def holdPlaysSpec : ChangeSpec := { name := "holdPlays", fn := fun _ => fun
  | [d1, d2, d3] => { results := [.lit (.bool true)], args := [d1, d2, d3] }
  | _ => none }
def holdPlaysRow : OpenClaim := { program := "ytaicamjpcnhjcaa", sum := "3e4240edc0560bf7df3b655c0636ae53e7e2f92af31905c1e085fb9560d2c1e2", func := "codemason/codemasonlaw.HoldPlays", spec := "holdPlays", unfollowed := true, recurses := true, apart := false }
def HoldPlaysSaid : Prop := holdPlaysRow.holds Try.pinned (OpenSpec.ofChange holdPlaysSpec)

/-- ITS FALSE NEIGHBOUR: 'it returns false'. Refute it at one input. -/
def holdPlaysWrong : ChangeSpec := { name := "holdPlays", fn := fun _ => fun
  | [d1, d2, d3] => { results := [.lit (.bool false)], args := [d1, d2, d3] }
  | _ => none }
def HoldPlaysWrongFalsely : Prop := holdPlaysRow.holds Try.pinned (OpenSpec.ofChange holdPlaysWrong)

/-- 'codemasontop.TopNames': WHATEVER THE INPUT: true; the input reads as it did. -/
def topNamesSpec : ChangeSpec := { name := "topNames", fn := fun _ => fun
  | [d1, d2, d3, d4] => { results := [.lit (.bool true)], args := [d1, d2, d3, d4] }
  | _ => none }
def topNamesRow : OpenClaim := { program := "ytaicamjpcnhjcaa", sum := "3e4240edc0560bf7df3b655c0636ae53e7e2f92af31905c1e085fb9560d2c1e2", func := "codemason/codemasontop.TopNames", spec := "topNames", unfollowed := true, recurses := true, apart := false }
def TopNamesSaid : Prop := topNamesRow.holds Try.pinned (OpenSpec.ofChange topNamesSpec)

/-- ITS FALSE NEIGHBOUR: 'it returns false'. Refute it at one input. -/
def topNamesWrong : ChangeSpec := { name := "topNames", fn := fun _ => fun
  | [d1, d2, d3, d4] => { results := [.lit (.bool false)], args := [d1, d2, d3, d4] }
  | _ => none }
def TopNamesWrongFalsely : Prop := topNamesRow.holds Try.pinned (OpenSpec.ofChange topNamesWrong)

/-- 'codemasonlaw.MachCodes': WHATEVER THE INPUT: true; the input reads as it did. -/
def machCodesSpec : ChangeSpec := { name := "machCodes", fn := fun _ => fun
  | [d1, d2, d3] => { results := [.lit (.bool true)], args := [d1, d2, d3] }
  | _ => none }
def machCodesRow : OpenClaim := { program := "ytaicamjpcnhjcaa", sum := "3e4240edc0560bf7df3b655c0636ae53e7e2f92af31905c1e085fb9560d2c1e2", func := "codemason/codemasonlaw.MachCodes", spec := "machCodes", unfollowed := true, recurses := true, apart := false }
def MachCodesSaid : Prop := machCodesRow.holds Try.pinned (OpenSpec.ofChange machCodesSpec)

/-- ITS FALSE NEIGHBOUR: 'it returns false'. Refute it at one input. -/
def machCodesWrong : ChangeSpec := { name := "machCodes", fn := fun _ => fun
  | [d1, d2, d3] => { results := [.lit (.bool false)], args := [d1, d2, d3] }
  | _ => none }
def MachCodesWrongFalsely : Prop := machCodesRow.holds Try.pinned (OpenSpec.ofChange machCodesWrong)

/-- 'codemasonlaw.StackCodes': WHATEVER THE INPUT: true; the input reads as it did. -/
def stackCodesSpec : ChangeSpec := { name := "stackCodes", fn := fun _ => fun
  | [d1, d2] => { results := [.lit (.bool true)], args := [d1, d2] }
  | _ => none }
def stackCodesRow : OpenClaim := { program := "ytaicamjpcnhjcaa", sum := "3e4240edc0560bf7df3b655c0636ae53e7e2f92af31905c1e085fb9560d2c1e2", func := "codemason/codemasonlaw.StackCodes", spec := "stackCodes", unfollowed := true, recurses := true, apart := false }
def StackCodesSaid : Prop := stackCodesRow.holds Try.pinned (OpenSpec.ofChange stackCodesSpec)

/-- ITS FALSE NEIGHBOUR: 'it returns false'. Refute it at one input. -/
def stackCodesWrong : ChangeSpec := { name := "stackCodes", fn := fun _ => fun
  | [d1, d2] => { results := [.lit (.bool false)], args := [d1, d2] }
  | _ => none }
def StackCodesWrongFalsely : Prop := stackCodesRow.holds Try.pinned (OpenSpec.ofChange stackCodesWrong)

/-- 'codemasonlaw.ShapeChecks': WHATEVER THE INPUT: true; the input reads as it did. -/
def shapeChecksSpec : ChangeSpec := { name := "shapeChecks", fn := fun _ => fun
  | [d1, d2] => { results := [.lit (.bool true)], args := [d1, d2] }
  | _ => none }
def shapeChecksRow : OpenClaim := { program := "ytaicamjpcnhjcaa", sum := "3e4240edc0560bf7df3b655c0636ae53e7e2f92af31905c1e085fb9560d2c1e2", func := "codemason/codemasonlaw.ShapeChecks", spec := "shapeChecks", unfollowed := true, recurses := true, loops := true, apart := false }
def ShapeChecksSaid : Prop := shapeChecksRow.holds Try.pinned (OpenSpec.ofChange shapeChecksSpec)

/-- ITS FALSE NEIGHBOUR: 'it returns false'. Refute it at one input. -/
def shapeChecksWrong : ChangeSpec := { name := "shapeChecks", fn := fun _ => fun
  | [d1, d2] => { results := [.lit (.bool false)], args := [d1, d2] }
  | _ => none }
def ShapeChecksWrongFalsely : Prop := shapeChecksRow.holds Try.pinned (OpenSpec.ofChange shapeChecksWrong)

/-- 'codemasonlaw.ShapeFlats': WHATEVER THE INPUT: true; the input reads as it did. -/
def shapeFlatsSpec : ChangeSpec := { name := "shapeFlats", fn := fun _ => fun
  | [d1, d2, d3] => { results := [.lit (.bool true)], args := [d1, d2, d3] }
  | _ => none }
def shapeFlatsRow : OpenClaim := { program := "ytaicamjpcnhjcaa", sum := "3e4240edc0560bf7df3b655c0636ae53e7e2f92af31905c1e085fb9560d2c1e2", func := "codemason/codemasonlaw.ShapeFlats", spec := "shapeFlats", unfollowed := true, recurses := true, loops := true, apart := false }
def ShapeFlatsSaid : Prop := shapeFlatsRow.holds Try.pinned (OpenSpec.ofChange shapeFlatsSpec)

/-- ITS FALSE NEIGHBOUR: 'it returns false'. Refute it at one input. -/
def shapeFlatsWrong : ChangeSpec := { name := "shapeFlats", fn := fun _ => fun
  | [d1, d2, d3] => { results := [.lit (.bool false)], args := [d1, d2, d3] }
  | _ => none }
def ShapeFlatsWrongFalsely : Prop := shapeFlatsRow.holds Try.pinned (OpenSpec.ofChange shapeFlatsWrong)

/-- 'codemasonlaw.LiveTrims': WHATEVER THE INPUT: true; the input reads as it did. -/
def liveTrimsSpec : ChangeSpec := { name := "liveTrims", fn := fun _ => fun
  | [d1, d2, d3] => { results := [.lit (.bool true)], args := [d1, d2, d3] }
  | _ => none }
def liveTrimsRow : OpenClaim := { program := "ytaicamjpcnhjcaa", sum := "3e4240edc0560bf7df3b655c0636ae53e7e2f92af31905c1e085fb9560d2c1e2", func := "codemason/codemasonlaw.LiveTrims", spec := "liveTrims", unfollowed := true, recurses := true, apart := false }
def LiveTrimsSaid : Prop := liveTrimsRow.holds Try.pinned (OpenSpec.ofChange liveTrimsSpec)

/-- ITS FALSE NEIGHBOUR: 'it returns false'. Refute it at one input. -/
def liveTrimsWrong : ChangeSpec := { name := "liveTrims", fn := fun _ => fun
  | [d1, d2, d3] => { results := [.lit (.bool false)], args := [d1, d2, d3] }
  | _ => none }
def LiveTrimsWrongFalsely : Prop := liveTrimsRow.holds Try.pinned (OpenSpec.ofChange liveTrimsWrong)

/-- 'codemasonlaw.ShapeRuns': WHATEVER THE INPUT: true; the input reads as it did. -/
def shapeRunsSpec : ChangeSpec := { name := "shapeRuns", fn := fun _ => fun
  | [d1, d2, d3] => { results := [.lit (.bool true)], args := [d1, d2, d3] }
  | _ => none }
def shapeRunsRow : OpenClaim := { program := "ytaicamjpcnhjcaa", sum := "3e4240edc0560bf7df3b655c0636ae53e7e2f92af31905c1e085fb9560d2c1e2", func := "codemason/codemasonlaw.ShapeRuns", spec := "shapeRuns", unfollowed := true, recurses := true, loops := true, apart := false }
def ShapeRunsSaid : Prop := shapeRunsRow.holds Try.pinned (OpenSpec.ofChange shapeRunsSpec)

/-- ITS FALSE NEIGHBOUR: 'it returns false'. Refute it at one input. -/
def shapeRunsWrong : ChangeSpec := { name := "shapeRuns", fn := fun _ => fun
  | [d1, d2, d3] => { results := [.lit (.bool false)], args := [d1, d2, d3] }
  | _ => none }
def ShapeRunsWrongFalsely : Prop := shapeRunsRow.holds Try.pinned (OpenSpec.ofChange shapeRunsWrong)

/-- 'codemasonlaw.SingleOnces': WHATEVER THE INPUT: true; the input reads as it did. -/
def singleOncesSpec : ChangeSpec := { name := "singleOnces", fn := fun _ => fun
  | [d1, d2] => { results := [.lit (.bool true)], args := [d1, d2] }
  | _ => none }
def singleOncesRow : OpenClaim := { program := "ytaicamjpcnhjcaa", sum := "3e4240edc0560bf7df3b655c0636ae53e7e2f92af31905c1e085fb9560d2c1e2", func := "codemason/codemasonlaw.SingleOnces", spec := "singleOnces", unfollowed := true, recurses := true, apart := false }
def SingleOncesSaid : Prop := singleOncesRow.holds Try.pinned (OpenSpec.ofChange singleOncesSpec)

/-- ITS FALSE NEIGHBOUR: 'it returns false'. Refute it at one input. -/
def singleOncesWrong : ChangeSpec := { name := "singleOnces", fn := fun _ => fun
  | [d1, d2] => { results := [.lit (.bool false)], args := [d1, d2] }
  | _ => none }
def SingleOncesWrongFalsely : Prop := singleOncesRow.holds Try.pinned (OpenSpec.ofChange singleOncesWrong)

/-- 'codemasonlaw.CutNeeds': WHATEVER THE INPUT: true; the input reads as it did. -/
def cutNeedsSpec : ChangeSpec := { name := "cutNeeds", fn := fun _ => fun
  | [d1, d2, d3] => { results := [.lit (.bool true)], args := [d1, d2, d3] }
  | _ => none }
def cutNeedsRow : OpenClaim := { program := "ytaicamjpcnhjcaa", sum := "3e4240edc0560bf7df3b655c0636ae53e7e2f92af31905c1e085fb9560d2c1e2", func := "codemason/codemasonlaw.CutNeeds", spec := "cutNeeds", unfollowed := true, recurses := true, apart := false }
def CutNeedsSaid : Prop := cutNeedsRow.holds Try.pinned (OpenSpec.ofChange cutNeedsSpec)

/-- ITS FALSE NEIGHBOUR: 'it returns false'. Refute it at one input. -/
def cutNeedsWrong : ChangeSpec := { name := "cutNeeds", fn := fun _ => fun
  | [d1, d2, d3] => { results := [.lit (.bool false)], args := [d1, d2, d3] }
  | _ => none }
def CutNeedsWrongFalsely : Prop := cutNeedsRow.holds Try.pinned (OpenSpec.ofChange cutNeedsWrong)

/-- 'codemasonlaw.SingleBuilds': WHATEVER THE INPUT: true; the input reads as it did. -/
def singleBuildsSpec : ChangeSpec := { name := "singleBuilds", fn := fun _ => fun
  | [d1, d2, d3] => { results := [.lit (.bool true)], args := [d1, d2, d3] }
  | _ => none }
def singleBuildsRow : OpenClaim := { program := "ytaicamjpcnhjcaa", sum := "3e4240edc0560bf7df3b655c0636ae53e7e2f92af31905c1e085fb9560d2c1e2", func := "codemason/codemasonlaw.SingleBuilds", spec := "singleBuilds", unfollowed := true, recurses := true, apart := false }
def SingleBuildsSaid : Prop := singleBuildsRow.holds Try.pinned (OpenSpec.ofChange singleBuildsSpec)

/-- ITS FALSE NEIGHBOUR: 'it returns false'. Refute it at one input. -/
def singleBuildsWrong : ChangeSpec := { name := "singleBuilds", fn := fun _ => fun
  | [d1, d2, d3] => { results := [.lit (.bool false)], args := [d1, d2, d3] }
  | _ => none }
def SingleBuildsWrongFalsely : Prop := singleBuildsRow.holds Try.pinned (OpenSpec.ofChange singleBuildsWrong)

/-- 'codemasonlaw.CutSlices': WHATEVER THE INPUT: true; the input reads as it did. -/
def cutSlicesSpec : ChangeSpec := { name := "cutSlices", fn := fun _ => fun
  | [d1, d2, d3] => { results := [.lit (.bool true)], args := [d1, d2, d3] }
  | _ => none }
def cutSlicesRow : OpenClaim := { program := "ytaicamjpcnhjcaa", sum := "3e4240edc0560bf7df3b655c0636ae53e7e2f92af31905c1e085fb9560d2c1e2", func := "codemason/codemasonlaw.CutSlices", spec := "cutSlices", unfollowed := true, recurses := true, apart := false }
def CutSlicesSaid : Prop := cutSlicesRow.holds Try.pinned (OpenSpec.ofChange cutSlicesSpec)

/-- ITS FALSE NEIGHBOUR: 'it returns false'. Refute it at one input. -/
def cutSlicesWrong : ChangeSpec := { name := "cutSlices", fn := fun _ => fun
  | [d1, d2, d3] => { results := [.lit (.bool false)], args := [d1, d2, d3] }
  | _ => none }
def CutSlicesWrongFalsely : Prop := cutSlicesRow.holds Try.pinned (OpenSpec.ofChange cutSlicesWrong)

/-- 'codemasonlaw.WholeMakes': WHATEVER THE INPUT: true; the input reads as it did. -/
def wholeMakesSpec : ChangeSpec := { name := "wholeMakes", fn := fun _ => fun
  | [d1, d2, d3, d4, d5] => { results := [.lit (.bool true)], args := [d1, d2, d3, d4, d5] }
  | _ => none }
def wholeMakesRow : OpenClaim := { program := "ytaicamjpcnhjcaa", sum := "3e4240edc0560bf7df3b655c0636ae53e7e2f92af31905c1e085fb9560d2c1e2", func := "codemason/codemasonlaw.WholeMakes", spec := "wholeMakes", unfollowed := true, recurses := true, apart := false }
def WholeMakesSaid : Prop := wholeMakesRow.holds Try.pinned (OpenSpec.ofChange wholeMakesSpec)

/-- ITS FALSE NEIGHBOUR: 'it returns false'. Refute it at one input. -/
def wholeMakesWrong : ChangeSpec := { name := "wholeMakes", fn := fun _ => fun
  | [d1, d2, d3, d4, d5] => { results := [.lit (.bool false)], args := [d1, d2, d3, d4, d5] }
  | _ => none }
def WholeMakesWrongFalsely : Prop := wholeMakesRow.holds Try.pinned (OpenSpec.ofChange wholeMakesWrong)

/-- 'codemasonlaw.WholeDoes': WHATEVER THE INPUT: true; the input reads as it did. -/
def wholeDoesSpec : ChangeSpec := { name := "wholeDoes", fn := fun _ => fun
  | [d1, d2, d3, d4, d5] => { results := [.lit (.bool true)], args := [d1, d2, d3, d4, d5] }
  | _ => none }
def wholeDoesRow : OpenClaim := { program := "ytaicamjpcnhjcaa", sum := "3e4240edc0560bf7df3b655c0636ae53e7e2f92af31905c1e085fb9560d2c1e2", func := "codemason/codemasonlaw.WholeDoes", spec := "wholeDoes", unfollowed := true, recurses := true, apart := false }
def WholeDoesSaid : Prop := wholeDoesRow.holds Try.pinned (OpenSpec.ofChange wholeDoesSpec)

/-- ITS FALSE NEIGHBOUR: 'it returns false'. Refute it at one input. -/
def wholeDoesWrong : ChangeSpec := { name := "wholeDoes", fn := fun _ => fun
  | [d1, d2, d3, d4, d5] => { results := [.lit (.bool false)], args := [d1, d2, d3, d4, d5] }
  | _ => none }
def WholeDoesWrongFalsely : Prop := wholeDoesRow.holds Try.pinned (OpenSpec.ofChange wholeDoesWrong)

/- THE SECOND FORM. 'bulk': how many values and letters a reading holds, each counted each time it is reached (what is shared counts as often as it is met; a slice's spare places count too). A statement '..UptoSaid' is the law's where the arguments, and the package variables that the reading takes, are together of bulk at most 1048576: NARROWER than '..Said'. Prove '..Said' where nothing that the law and all that it calls make is longer than what came in: it says more and counts as full. Else prove '..UptoSaid'. A law counts once. -/
mutual
def uptoBulk {H : Type} : DataW H → Nat
  | .lit (.string bytes) => bytes.length + 1
  | .lit _ => 1
  | .nil => 1
  | .ptr d => uptoBulk d + 1
  | .slice elems spare => uptoBulkAll elems + uptoBulkAll spare + 1
  | .agg parts => uptoBulkAll parts + 1
  | .iface _ d => uptoBulk d + 1
  | .map entries => uptoBulkEntries entries + 1
  | .held _ => 1
def uptoBulkAll {H : Type} : List (DataW H) → Nat
  | [] => 0
  | d :: r => uptoBulk d + uptoBulkAll r
def uptoBulkEntries {H : Type} : List (Lit × DataW H) → Nat
  | [] => 0
  | x :: r => uptoBulkEntry x + uptoBulkEntries r
def uptoBulkEntry {H : Type} : Lit × DataW H → Nat
  | (.string bytes, d) => bytes.length + uptoBulk d + 1
  | (_, d) => uptoBulk d + 1
 end
def uptoSmall : (H : Type) → List (DataW H) → Bool := fun _ ds => decide (uptoBulkAll ds ≤ 1048576)
def OpenSpec.upto (s : _root_.Go.ChangeSpec) : _root_.Go.OpenSpec := { _root_.Go.OpenSpec.ofChange s with cond := some uptoSmall }

/-- 'codemasontop.TopShapes', WHERE WHAT IT READS IS OF BULK AT MOST 1048576: true; the input reads as it did. -/
def topShapesUptoRow : OpenClaim := { program := "ytaicamjpcnhjcaa", sum := "3e4240edc0560bf7df3b655c0636ae53e7e2f92af31905c1e085fb9560d2c1e2", func := "codemason/codemasontop.TopShapes", spec := "topShapes", unfollowed := true, recurses := true, loops := true, apart := false, narrowed := true }
def TopShapesUptoSaid : Prop := topShapesUptoRow.holds Try.pinned (OpenSpec.upto topShapesSpec)

/-- 'codemasontop.TopSlice', WHERE WHAT IT READS IS OF BULK AT MOST 1048576: true; the input reads as it did. -/
def topSliceUptoRow : OpenClaim := { program := "ytaicamjpcnhjcaa", sum := "3e4240edc0560bf7df3b655c0636ae53e7e2f92af31905c1e085fb9560d2c1e2", func := "codemason/codemasontop.TopSlice", spec := "topSlice", unfollowed := true, recurses := true, apart := false, narrowed := true }
def TopSliceUptoSaid : Prop := topSliceUptoRow.holds Try.pinned (OpenSpec.upto topSliceSpec)

/-- 'codemasonlaw.ShapeBuilds', WHERE WHAT IT READS IS OF BULK AT MOST 1048576: true; the input reads as it did. -/
def shapeBuildsUptoRow : OpenClaim := { program := "ytaicamjpcnhjcaa", sum := "3e4240edc0560bf7df3b655c0636ae53e7e2f92af31905c1e085fb9560d2c1e2", func := "codemason/codemasonlaw.ShapeBuilds", spec := "shapeBuilds", unfollowed := true, recurses := true, apart := false, narrowed := true }
def ShapeBuildsUptoSaid : Prop := shapeBuildsUptoRow.holds Try.pinned (OpenSpec.upto shapeBuildsSpec)

/-- 'codemasonlaw.HoldPlays', WHERE WHAT IT READS IS OF BULK AT MOST 1048576: true; the input reads as it did. -/
def holdPlaysUptoRow : OpenClaim := { program := "ytaicamjpcnhjcaa", sum := "3e4240edc0560bf7df3b655c0636ae53e7e2f92af31905c1e085fb9560d2c1e2", func := "codemason/codemasonlaw.HoldPlays", spec := "holdPlays", unfollowed := true, recurses := true, apart := false, narrowed := true }
def HoldPlaysUptoSaid : Prop := holdPlaysUptoRow.holds Try.pinned (OpenSpec.upto holdPlaysSpec)

/-- 'codemasontop.TopNames', WHERE WHAT IT READS IS OF BULK AT MOST 1048576: true; the input reads as it did. -/
def topNamesUptoRow : OpenClaim := { program := "ytaicamjpcnhjcaa", sum := "3e4240edc0560bf7df3b655c0636ae53e7e2f92af31905c1e085fb9560d2c1e2", func := "codemason/codemasontop.TopNames", spec := "topNames", unfollowed := true, recurses := true, apart := false, narrowed := true }
def TopNamesUptoSaid : Prop := topNamesUptoRow.holds Try.pinned (OpenSpec.upto topNamesSpec)

/-- 'codemasonlaw.MachCodes', WHERE WHAT IT READS IS OF BULK AT MOST 1048576: true; the input reads as it did. -/
def machCodesUptoRow : OpenClaim := { program := "ytaicamjpcnhjcaa", sum := "3e4240edc0560bf7df3b655c0636ae53e7e2f92af31905c1e085fb9560d2c1e2", func := "codemason/codemasonlaw.MachCodes", spec := "machCodes", unfollowed := true, recurses := true, apart := false, narrowed := true }
def MachCodesUptoSaid : Prop := machCodesUptoRow.holds Try.pinned (OpenSpec.upto machCodesSpec)

/-- 'codemasonlaw.StackCodes', WHERE WHAT IT READS IS OF BULK AT MOST 1048576: true; the input reads as it did. -/
def stackCodesUptoRow : OpenClaim := { program := "ytaicamjpcnhjcaa", sum := "3e4240edc0560bf7df3b655c0636ae53e7e2f92af31905c1e085fb9560d2c1e2", func := "codemason/codemasonlaw.StackCodes", spec := "stackCodes", unfollowed := true, recurses := true, apart := false, narrowed := true }
def StackCodesUptoSaid : Prop := stackCodesUptoRow.holds Try.pinned (OpenSpec.upto stackCodesSpec)

/-- 'codemasonlaw.ShapeChecks', WHERE WHAT IT READS IS OF BULK AT MOST 1048576: true; the input reads as it did. -/
def shapeChecksUptoRow : OpenClaim := { program := "ytaicamjpcnhjcaa", sum := "3e4240edc0560bf7df3b655c0636ae53e7e2f92af31905c1e085fb9560d2c1e2", func := "codemason/codemasonlaw.ShapeChecks", spec := "shapeChecks", unfollowed := true, recurses := true, loops := true, apart := false, narrowed := true }
def ShapeChecksUptoSaid : Prop := shapeChecksUptoRow.holds Try.pinned (OpenSpec.upto shapeChecksSpec)

/-- 'codemasonlaw.ShapeFlats', WHERE WHAT IT READS IS OF BULK AT MOST 1048576: true; the input reads as it did. -/
def shapeFlatsUptoRow : OpenClaim := { program := "ytaicamjpcnhjcaa", sum := "3e4240edc0560bf7df3b655c0636ae53e7e2f92af31905c1e085fb9560d2c1e2", func := "codemason/codemasonlaw.ShapeFlats", spec := "shapeFlats", unfollowed := true, recurses := true, loops := true, apart := false, narrowed := true }
def ShapeFlatsUptoSaid : Prop := shapeFlatsUptoRow.holds Try.pinned (OpenSpec.upto shapeFlatsSpec)

/-- 'codemasonlaw.LiveTrims', WHERE WHAT IT READS IS OF BULK AT MOST 1048576: true; the input reads as it did. -/
def liveTrimsUptoRow : OpenClaim := { program := "ytaicamjpcnhjcaa", sum := "3e4240edc0560bf7df3b655c0636ae53e7e2f92af31905c1e085fb9560d2c1e2", func := "codemason/codemasonlaw.LiveTrims", spec := "liveTrims", unfollowed := true, recurses := true, apart := false, narrowed := true }
def LiveTrimsUptoSaid : Prop := liveTrimsUptoRow.holds Try.pinned (OpenSpec.upto liveTrimsSpec)

/-- 'codemasonlaw.ShapeRuns', WHERE WHAT IT READS IS OF BULK AT MOST 1048576: true; the input reads as it did. -/
def shapeRunsUptoRow : OpenClaim := { program := "ytaicamjpcnhjcaa", sum := "3e4240edc0560bf7df3b655c0636ae53e7e2f92af31905c1e085fb9560d2c1e2", func := "codemason/codemasonlaw.ShapeRuns", spec := "shapeRuns", unfollowed := true, recurses := true, loops := true, apart := false, narrowed := true }
def ShapeRunsUptoSaid : Prop := shapeRunsUptoRow.holds Try.pinned (OpenSpec.upto shapeRunsSpec)

/-- 'codemasonlaw.SingleOnces', WHERE WHAT IT READS IS OF BULK AT MOST 1048576: true; the input reads as it did. -/
def singleOncesUptoRow : OpenClaim := { program := "ytaicamjpcnhjcaa", sum := "3e4240edc0560bf7df3b655c0636ae53e7e2f92af31905c1e085fb9560d2c1e2", func := "codemason/codemasonlaw.SingleOnces", spec := "singleOnces", unfollowed := true, recurses := true, apart := false, narrowed := true }
def SingleOncesUptoSaid : Prop := singleOncesUptoRow.holds Try.pinned (OpenSpec.upto singleOncesSpec)

/-- 'codemasonlaw.CutNeeds', WHERE WHAT IT READS IS OF BULK AT MOST 1048576: true; the input reads as it did. -/
def cutNeedsUptoRow : OpenClaim := { program := "ytaicamjpcnhjcaa", sum := "3e4240edc0560bf7df3b655c0636ae53e7e2f92af31905c1e085fb9560d2c1e2", func := "codemason/codemasonlaw.CutNeeds", spec := "cutNeeds", unfollowed := true, recurses := true, apart := false, narrowed := true }
def CutNeedsUptoSaid : Prop := cutNeedsUptoRow.holds Try.pinned (OpenSpec.upto cutNeedsSpec)

/-- 'codemasonlaw.SingleBuilds', WHERE WHAT IT READS IS OF BULK AT MOST 1048576: true; the input reads as it did. -/
def singleBuildsUptoRow : OpenClaim := { program := "ytaicamjpcnhjcaa", sum := "3e4240edc0560bf7df3b655c0636ae53e7e2f92af31905c1e085fb9560d2c1e2", func := "codemason/codemasonlaw.SingleBuilds", spec := "singleBuilds", unfollowed := true, recurses := true, apart := false, narrowed := true }
def SingleBuildsUptoSaid : Prop := singleBuildsUptoRow.holds Try.pinned (OpenSpec.upto singleBuildsSpec)

/-- 'codemasonlaw.CutSlices', WHERE WHAT IT READS IS OF BULK AT MOST 1048576: true; the input reads as it did. -/
def cutSlicesUptoRow : OpenClaim := { program := "ytaicamjpcnhjcaa", sum := "3e4240edc0560bf7df3b655c0636ae53e7e2f92af31905c1e085fb9560d2c1e2", func := "codemason/codemasonlaw.CutSlices", spec := "cutSlices", unfollowed := true, recurses := true, apart := false, narrowed := true }
def CutSlicesUptoSaid : Prop := cutSlicesUptoRow.holds Try.pinned (OpenSpec.upto cutSlicesSpec)

/-- 'codemasonlaw.WholeMakes', WHERE WHAT IT READS IS OF BULK AT MOST 1048576: true; the input reads as it did. -/
def wholeMakesUptoRow : OpenClaim := { program := "ytaicamjpcnhjcaa", sum := "3e4240edc0560bf7df3b655c0636ae53e7e2f92af31905c1e085fb9560d2c1e2", func := "codemason/codemasonlaw.WholeMakes", spec := "wholeMakes", unfollowed := true, recurses := true, apart := false, narrowed := true }
def WholeMakesUptoSaid : Prop := wholeMakesUptoRow.holds Try.pinned (OpenSpec.upto wholeMakesSpec)

/-- 'codemasonlaw.WholeDoes', WHERE WHAT IT READS IS OF BULK AT MOST 1048576: true; the input reads as it did. -/
def wholeDoesUptoRow : OpenClaim := { program := "ytaicamjpcnhjcaa", sum := "3e4240edc0560bf7df3b655c0636ae53e7e2f92af31905c1e085fb9560d2c1e2", func := "codemason/codemasonlaw.WholeDoes", spec := "wholeDoes", unfollowed := true, recurses := true, apart := false, narrowed := true }
def WholeDoesUptoSaid : Prop := wholeDoesUptoRow.holds Try.pinned (OpenSpec.upto wholeDoesSpec)

end Rows
end Go.Proofs.Ytaicamjpcnhjcaa
