/-
  NARROWER THAN 'FOR EVERY INPUT', by the rows' own cells (each row's printed sentence says how): KnuthLowerBound: loops · OutsideThroughIsLowerBound: loops.
  DERIVED. THE GIVEN ROWS OF THIS SEAT. 22 by the template 'for every input the law returns true; each argument reads behind the call as it read before'; 0 by the template 'total and deterministic' (their statements: YtepfbhigeghjjaaTotals.lean).
  GIVEN WITH THE SEED: the statements are not yours to turn. If you find one false, say at which input.
  Laid BY PROGRAM, IN A SANDBOX (cutbox-rows.mjs): the forced cells as the released guide's own fill.sh prints them over the translation 57b12bea10d699fd… (all of the seat's roots in one cut). By AI agents, Wed Nov 11 2026. No macro, syntax, notation, axiom, sorry.
-/
import Derived.Test.YtepfbhigeghjjaaChecked
import GoSem.Claim
import GoSem.ClaimJoined
import GoSem.ClaimMapViews
import Derived.JoinedTies
import Derived.KernelRfl
namespace Go.Proofs.Ytepfbhigeghjjaa
/- THE CELL 'sum', in the pinned program and in every row, IS THE sha256 OF THE DUMP (.gsa) THAT YtepfbhigeghjjaaProg.lean LOADS. Nothing in Lean hashes anything: it is a label: what it is worth is what the hold of that sum in a sandbox is worth. -/
noncomputable def Try.pinned : Pinned := { name := "ytepfbhigeghjjaa", sum := "57b12bea10d699fd09bb44eeb07fde6c4bbb3309800030166703d6614467401f", checked := Try.checked }
namespace Rows
def none {H : Type} : Left H := { results := [], args := [] }

/-- 'emendatelaw28.PqueueSorts': WHATEVER THE INPUT: true; the input reads as it did. -/
def pqueueSortsSpec : ChangeSpec := { name := "pqueueSorts", fn := fun _ => fun
  | [d] => { results := [.lit (.bool true)], args := [d] }
  | _ => none }
def pqueueSortsRow : OpenClaim := { program := "ytepfbhigeghjjaa", sum := "57b12bea10d699fd09bb44eeb07fde6c4bbb3309800030166703d6614467401f", func := "emendate/emendatelaw28.PqueueSorts", spec := "pqueueSorts", unfollowed := true, recurses := true, apart := false }
def PqueueSortsSaid : Prop := pqueueSortsRow.holds Try.pinned (OpenSpec.ofChange pqueueSortsSpec)

/-- ITS FALSE NEIGHBOUR: 'it returns false'. Refute it at one input. -/
def pqueueSortsWrong : ChangeSpec := { name := "pqueueSorts", fn := fun _ => fun
  | [d] => { results := [.lit (.bool false)], args := [d] }
  | _ => none }
def PqueueSortsWrongFalsely : Prop := pqueueSortsRow.holds Try.pinned (OpenSpec.ofChange pqueueSortsWrong)

/-- 'emendatelaw28.PqueueUpdates': WHATEVER THE INPUT: true; the input reads as it did. -/
def pqueueUpdatesSpec : ChangeSpec := { name := "pqueueUpdates", fn := fun _ => fun
  | [d1, d2, d3] => { results := [.lit (.bool true)], args := [d1, d2, d3] }
  | _ => none }
def pqueueUpdatesRow : OpenClaim := { program := "ytepfbhigeghjjaa", sum := "57b12bea10d699fd09bb44eeb07fde6c4bbb3309800030166703d6614467401f", func := "emendate/emendatelaw28.PqueueUpdates", spec := "pqueueUpdates", unfollowed := true, recurses := true, apart := false }
def PqueueUpdatesSaid : Prop := pqueueUpdatesRow.holds Try.pinned (OpenSpec.ofChange pqueueUpdatesSpec)

/-- ITS FALSE NEIGHBOUR: 'it returns false'. Refute it at one input. -/
def pqueueUpdatesWrong : ChangeSpec := { name := "pqueueUpdates", fn := fun _ => fun
  | [d1, d2, d3] => { results := [.lit (.bool false)], args := [d1, d2, d3] }
  | _ => none }
def PqueueUpdatesWrongFalsely : Prop := pqueueUpdatesRow.holds Try.pinned (OpenSpec.ofChange pqueueUpdatesWrong)

/-- 'emendatelaw28.PqueuePlays': WHATEVER THE INPUT: true; the input reads as it did. -/
def pqueuePlaysSpec : ChangeSpec := { name := "pqueuePlays", fn := fun _ => fun
  | [d] => { results := [.lit (.bool true)], args := [d] }
  | _ => none }
def pqueuePlaysRow : OpenClaim := { program := "ytepfbhigeghjjaa", sum := "57b12bea10d699fd09bb44eeb07fde6c4bbb3309800030166703d6614467401f", func := "emendate/emendatelaw28.PqueuePlays", spec := "pqueuePlays", unfollowed := true, recurses := true, apart := false }
def PqueuePlaysSaid : Prop := pqueuePlaysRow.holds Try.pinned (OpenSpec.ofChange pqueuePlaysSpec)

/-- ITS FALSE NEIGHBOUR: 'it returns false'. Refute it at one input. -/
def pqueuePlaysWrong : ChangeSpec := { name := "pqueuePlays", fn := fun _ => fun
  | [d] => { results := [.lit (.bool false)], args := [d] }
  | _ => none }
def PqueuePlaysWrongFalsely : Prop := pqueuePlaysRow.holds Try.pinned (OpenSpec.ofChange pqueuePlaysWrong)

/-- 'emendatelaw28.PqueuePeeks': WHATEVER THE INPUT: true; the input reads as it did. -/
def pqueuePeeksSpec : ChangeSpec := { name := "pqueuePeeks", fn := fun _ => fun
  | [d] => { results := [.lit (.bool true)], args := [d] }
  | _ => none }
def pqueuePeeksRow : OpenClaim := { program := "ytepfbhigeghjjaa", sum := "57b12bea10d699fd09bb44eeb07fde6c4bbb3309800030166703d6614467401f", func := "emendate/emendatelaw28.PqueuePeeks", spec := "pqueuePeeks", unfollowed := true, recurses := true, apart := false }
def PqueuePeeksSaid : Prop := pqueuePeeksRow.holds Try.pinned (OpenSpec.ofChange pqueuePeeksSpec)

/-- ITS FALSE NEIGHBOUR: 'it returns false'. Refute it at one input. -/
def pqueuePeeksWrong : ChangeSpec := { name := "pqueuePeeks", fn := fun _ => fun
  | [d] => { results := [.lit (.bool false)], args := [d] }
  | _ => none }
def PqueuePeeksWrongFalsely : Prop := pqueuePeeksRow.holds Try.pinned (OpenSpec.ofChange pqueuePeeksWrong)

/-- 'emendatelaw28.PqueueMerges': WHATEVER THE INPUT: true; the input reads as it did. -/
def pqueueMergesSpec : ChangeSpec := { name := "pqueueMerges", fn := fun _ => fun
  | [d1, d2] => { results := [.lit (.bool true)], args := [d1, d2] }
  | _ => none }
def pqueueMergesRow : OpenClaim := { program := "ytepfbhigeghjjaa", sum := "57b12bea10d699fd09bb44eeb07fde6c4bbb3309800030166703d6614467401f", func := "emendate/emendatelaw28.PqueueMerges", spec := "pqueueMerges", unfollowed := true, recurses := true, apart := false }
def PqueueMergesSaid : Prop := pqueueMergesRow.holds Try.pinned (OpenSpec.ofChange pqueueMergesSpec)

/-- ITS FALSE NEIGHBOUR: 'it returns false'. Refute it at one input. -/
def pqueueMergesWrong : ChangeSpec := { name := "pqueueMerges", fn := fun _ => fun
  | [d1, d2] => { results := [.lit (.bool false)], args := [d1, d2] }
  | _ => none }
def PqueueMergesWrongFalsely : Prop := pqueueMergesRow.holds Try.pinned (OpenSpec.ofChange pqueueMergesWrong)

/-- 'emendatelaw33.OutsideUnreachable': WHATEVER THE INPUT: true; the input reads as it did. -/
def outsideUnreachableSpec : ChangeSpec := { name := "outsideUnreachable", fn := fun _ => fun
  | [d1, d2] => { results := [.lit (.bool true)], args := [d1, d2] }
  | _ => none }
def outsideUnreachableRow : OpenClaim := { program := "ytepfbhigeghjjaa", sum := "57b12bea10d699fd09bb44eeb07fde6c4bbb3309800030166703d6614467401f", func := "emendate/emendatelaw33.OutsideUnreachable", spec := "outsideUnreachable", unfollowed := true, recurses := true, apart := false }
def OutsideUnreachableSaid : Prop := outsideUnreachableRow.holds Try.pinned (OpenSpec.ofChange outsideUnreachableSpec)

/-- ITS FALSE NEIGHBOUR: 'it returns false'. Refute it at one input. -/
def outsideUnreachableWrong : ChangeSpec := { name := "outsideUnreachable", fn := fun _ => fun
  | [d1, d2] => { results := [.lit (.bool false)], args := [d1, d2] }
  | _ => none }
def OutsideUnreachableWrongFalsely : Prop := outsideUnreachableRow.holds Try.pinned (OpenSpec.ofChange outsideUnreachableWrong)

/-- 'emendatelaw29.KnuthLess': WHATEVER THE INPUT: true; the input reads as it did. -/
def knuthLessSpec : ChangeSpec := { name := "knuthLess", fn := fun _ => fun
  | [d1, d2, d3] => { results := [.lit (.bool true)], args := [d1, d2, d3] }
  | _ => none }
def knuthLessRow : OpenClaim := { program := "ytepfbhigeghjjaa", sum := "57b12bea10d699fd09bb44eeb07fde6c4bbb3309800030166703d6614467401f", func := "emendate/emendatelaw29.KnuthLess", spec := "knuthLess", unfollowed := true, recurses := true, apart := false }
def KnuthLessSaid : Prop := knuthLessRow.holds Try.pinned (OpenSpec.ofChange knuthLessSpec)

/-- ITS FALSE NEIGHBOUR: 'it returns false'. Refute it at one input. -/
def knuthLessWrong : ChangeSpec := { name := "knuthLess", fn := fun _ => fun
  | [d1, d2, d3] => { results := [.lit (.bool false)], args := [d1, d2, d3] }
  | _ => none }
def KnuthLessWrongFalsely : Prop := knuthLessRow.holds Try.pinned (OpenSpec.ofChange knuthLessWrong)

/-- 'emendatelaw33.OutsideCheaperEdge': WHATEVER THE INPUT: true; the input reads as it did. -/
def outsideCheaperEdgeSpec : ChangeSpec := { name := "outsideCheaperEdge", fn := fun _ => fun
  | [d1, d2, d3] => { results := [.lit (.bool true)], args := [d1, d2, d3] }
  | _ => none }
def outsideCheaperEdgeRow : OpenClaim := { program := "ytepfbhigeghjjaa", sum := "57b12bea10d699fd09bb44eeb07fde6c4bbb3309800030166703d6614467401f", func := "emendate/emendatelaw33.OutsideCheaperEdge", spec := "outsideCheaperEdge", unfollowed := true, recurses := true, apart := false }
def OutsideCheaperEdgeSaid : Prop := outsideCheaperEdgeRow.holds Try.pinned (OpenSpec.ofChange outsideCheaperEdgeSpec)

/-- ITS FALSE NEIGHBOUR: 'it returns false'. Refute it at one input. -/
def outsideCheaperEdgeWrong : ChangeSpec := { name := "outsideCheaperEdge", fn := fun _ => fun
  | [d1, d2, d3] => { results := [.lit (.bool false)], args := [d1, d2, d3] }
  | _ => none }
def OutsideCheaperEdgeWrongFalsely : Prop := outsideCheaperEdgeRow.holds Try.pinned (OpenSpec.ofChange outsideCheaperEdgeWrong)

/-- 'emendatelaw29.KnuthCombine': WHATEVER THE INPUT: true; the input reads as it did. -/
def knuthCombineSpec : ChangeSpec := { name := "knuthCombine", fn := fun _ => fun
  | [d1, d2] => { results := [.lit (.bool true)], args := [d1, d2] }
  | _ => none }
def knuthCombineRow : OpenClaim := { program := "ytepfbhigeghjjaa", sum := "57b12bea10d699fd09bb44eeb07fde6c4bbb3309800030166703d6614467401f", func := "emendate/emendatelaw29.KnuthCombine", spec := "knuthCombine", unfollowed := true, recurses := true, apart := false }
def KnuthCombineSaid : Prop := knuthCombineRow.holds Try.pinned (OpenSpec.ofChange knuthCombineSpec)

/-- ITS FALSE NEIGHBOUR: 'it returns false'. Refute it at one input. -/
def knuthCombineWrong : ChangeSpec := { name := "knuthCombine", fn := fun _ => fun
  | [d1, d2] => { results := [.lit (.bool false)], args := [d1, d2] }
  | _ => none }
def KnuthCombineWrongFalsely : Prop := knuthCombineRow.holds Try.pinned (OpenSpec.ofChange knuthCombineWrong)

/-- 'emendatelaw29.KnuthSuperior': WHATEVER THE INPUT: true; the input reads as it did. -/
def knuthSuperiorSpec : ChangeSpec := { name := "knuthSuperior", fn := fun _ => fun
  | [d1, d2, d3] => { results := [.lit (.bool true)], args := [d1, d2, d3] }
  | _ => none }
def knuthSuperiorRow : OpenClaim := { program := "ytepfbhigeghjjaa", sum := "57b12bea10d699fd09bb44eeb07fde6c4bbb3309800030166703d6614467401f", func := "emendate/emendatelaw29.KnuthSuperior", spec := "knuthSuperior", unfollowed := true, recurses := true, apart := false }
def KnuthSuperiorSaid : Prop := knuthSuperiorRow.holds Try.pinned (OpenSpec.ofChange knuthSuperiorSpec)

/-- ITS FALSE NEIGHBOUR: 'it returns false'. Refute it at one input. -/
def knuthSuperiorWrong : ChangeSpec := { name := "knuthSuperior", fn := fun _ => fun
  | [d1, d2, d3] => { results := [.lit (.bool false)], args := [d1, d2, d3] }
  | _ => none }
def KnuthSuperiorWrongFalsely : Prop := knuthSuperiorRow.holds Try.pinned (OpenSpec.ofChange knuthSuperiorWrong)

/-- 'emendatelaw29.KnuthSolve': WHATEVER THE INPUT: true; the input reads as it did. -/
def knuthSolveSpec : ChangeSpec := { name := "knuthSolve", fn := fun _ => fun
  | [d] => { results := [.lit (.bool true)], args := [d] }
  | _ => none }
def knuthSolveRow : OpenClaim := { program := "ytepfbhigeghjjaa", sum := "57b12bea10d699fd09bb44eeb07fde6c4bbb3309800030166703d6614467401f", func := "emendate/emendatelaw29.KnuthSolve", spec := "knuthSolve", unfollowed := true, recurses := true, apart := false }
def KnuthSolveSaid : Prop := knuthSolveRow.holds Try.pinned (OpenSpec.ofChange knuthSolveSpec)

/-- ITS FALSE NEIGHBOUR: 'it returns false'. Refute it at one input. -/
def knuthSolveWrong : ChangeSpec := { name := "knuthSolve", fn := fun _ => fun
  | [d] => { results := [.lit (.bool false)], args := [d] }
  | _ => none }
def KnuthSolveWrongFalsely : Prop := knuthSolveRow.holds Try.pinned (OpenSpec.ofChange knuthSolveWrong)

/-- 'emendatelaw29.KnuthFixpoint': WHATEVER THE INPUT: true; the input reads as it did. -/
def knuthFixpointSpec : ChangeSpec := { name := "knuthFixpoint", fn := fun _ => fun
  | [d] => { results := [.lit (.bool true)], args := [d] }
  | _ => none }
def knuthFixpointRow : OpenClaim := { program := "ytepfbhigeghjjaa", sum := "57b12bea10d699fd09bb44eeb07fde6c4bbb3309800030166703d6614467401f", func := "emendate/emendatelaw29.KnuthFixpoint", spec := "knuthFixpoint", unfollowed := true, recurses := true, apart := false }
def KnuthFixpointSaid : Prop := knuthFixpointRow.holds Try.pinned (OpenSpec.ofChange knuthFixpointSpec)

/-- ITS FALSE NEIGHBOUR: 'it returns false'. Refute it at one input. -/
def knuthFixpointWrong : ChangeSpec := { name := "knuthFixpoint", fn := fun _ => fun
  | [d] => { results := [.lit (.bool false)], args := [d] }
  | _ => none }
def KnuthFixpointWrongFalsely : Prop := knuthFixpointRow.holds Try.pinned (OpenSpec.ofChange knuthFixpointWrong)

/-- 'emendatelaw29.KnuthLowerBound': WHATEVER THE INPUT: true; the input reads as it did. -/
def knuthLowerBoundSpec : ChangeSpec := { name := "knuthLowerBound", fn := fun _ => fun
  | [d1, d2, d3] => { results := [.lit (.bool true)], args := [d1, d2, d3] }
  | _ => none }
def knuthLowerBoundRow : OpenClaim := { program := "ytepfbhigeghjjaa", sum := "57b12bea10d699fd09bb44eeb07fde6c4bbb3309800030166703d6614467401f", func := "emendate/emendatelaw29.KnuthLowerBound", spec := "knuthLowerBound", unfollowed := true, recurses := true, loops := true, apart := false }
def KnuthLowerBoundSaid : Prop := knuthLowerBoundRow.holds Try.pinned (OpenSpec.ofChange knuthLowerBoundSpec)

/-- ITS FALSE NEIGHBOUR: 'it returns false'. Refute it at one input. -/
def knuthLowerBoundWrong : ChangeSpec := { name := "knuthLowerBound", fn := fun _ => fun
  | [d1, d2, d3] => { results := [.lit (.bool false)], args := [d1, d2, d3] }
  | _ => none }
def KnuthLowerBoundWrongFalsely : Prop := knuthLowerBoundRow.holds Try.pinned (OpenSpec.ofChange knuthLowerBoundWrong)

/-- 'emendatelaw29.KnuthChosenEdges': WHATEVER THE INPUT: true; the input reads as it did. -/
def knuthChosenEdgesSpec : ChangeSpec := { name := "knuthChosenEdges", fn := fun _ => fun
  | [d] => { results := [.lit (.bool true)], args := [d] }
  | _ => none }
def knuthChosenEdgesRow : OpenClaim := { program := "ytepfbhigeghjjaa", sum := "57b12bea10d699fd09bb44eeb07fde6c4bbb3309800030166703d6614467401f", func := "emendate/emendatelaw29.KnuthChosenEdges", spec := "knuthChosenEdges", unfollowed := true, recurses := true, apart := false }
def KnuthChosenEdgesSaid : Prop := knuthChosenEdgesRow.holds Try.pinned (OpenSpec.ofChange knuthChosenEdgesSpec)

/-- ITS FALSE NEIGHBOUR: 'it returns false'. Refute it at one input. -/
def knuthChosenEdgesWrong : ChangeSpec := { name := "knuthChosenEdges", fn := fun _ => fun
  | [d] => { results := [.lit (.bool false)], args := [d] }
  | _ => none }
def KnuthChosenEdgesWrongFalsely : Prop := knuthChosenEdgesRow.holds Try.pinned (OpenSpec.ofChange knuthChosenEdgesWrong)

/-- 'emendatelaw29.KnuthMonotone': WHATEVER THE INPUT: true; the input reads as it did. -/
def knuthMonotoneSpec : ChangeSpec := { name := "knuthMonotone", fn := fun _ => fun
  | [d1, d2, d3] => { results := [.lit (.bool true)], args := [d1, d2, d3] }
  | _ => none }
def knuthMonotoneRow : OpenClaim := { program := "ytepfbhigeghjjaa", sum := "57b12bea10d699fd09bb44eeb07fde6c4bbb3309800030166703d6614467401f", func := "emendate/emendatelaw29.KnuthMonotone", spec := "knuthMonotone", unfollowed := true, recurses := true, apart := false }
def KnuthMonotoneSaid : Prop := knuthMonotoneRow.holds Try.pinned (OpenSpec.ofChange knuthMonotoneSpec)

/-- ITS FALSE NEIGHBOUR: 'it returns false'. Refute it at one input. -/
def knuthMonotoneWrong : ChangeSpec := { name := "knuthMonotone", fn := fun _ => fun
  | [d1, d2, d3] => { results := [.lit (.bool false)], args := [d1, d2, d3] }
  | _ => none }
def KnuthMonotoneWrongFalsely : Prop := knuthMonotoneRow.holds Try.pinned (OpenSpec.ofChange knuthMonotoneWrong)

/-- 'emendatelaw29.KnuthScale': WHATEVER THE INPUT: true; the input reads as it did. -/
def knuthScaleSpec : ChangeSpec := { name := "knuthScale", fn := fun _ => fun
  | [d1, d2] => { results := [.lit (.bool true)], args := [d1, d2] }
  | _ => none }
def knuthScaleRow : OpenClaim := { program := "ytepfbhigeghjjaa", sum := "57b12bea10d699fd09bb44eeb07fde6c4bbb3309800030166703d6614467401f", func := "emendate/emendatelaw29.KnuthScale", spec := "knuthScale", unfollowed := true, recurses := true, apart := false }
def KnuthScaleSaid : Prop := knuthScaleRow.holds Try.pinned (OpenSpec.ofChange knuthScaleSpec)

/-- ITS FALSE NEIGHBOUR: 'it returns false'. Refute it at one input. -/
def knuthScaleWrong : ChangeSpec := { name := "knuthScale", fn := fun _ => fun
  | [d1, d2] => { results := [.lit (.bool false)], args := [d1, d2] }
  | _ => none }
def KnuthScaleWrongFalsely : Prop := knuthScaleRow.holds Try.pinned (OpenSpec.ofChange knuthScaleWrong)

/-- 'emendatelaw29.KnuthRelabel': WHATEVER THE INPUT: true; the input reads as it did. -/
def knuthRelabelSpec : ChangeSpec := { name := "knuthRelabel", fn := fun _ => fun
  | [d1, d2] => { results := [.lit (.bool true)], args := [d1, d2] }
  | _ => none }
def knuthRelabelRow : OpenClaim := { program := "ytepfbhigeghjjaa", sum := "57b12bea10d699fd09bb44eeb07fde6c4bbb3309800030166703d6614467401f", func := "emendate/emendatelaw29.KnuthRelabel", spec := "knuthRelabel", unfollowed := true, recurses := true, apart := false }
def KnuthRelabelSaid : Prop := knuthRelabelRow.holds Try.pinned (OpenSpec.ofChange knuthRelabelSpec)

/-- ITS FALSE NEIGHBOUR: 'it returns false'. Refute it at one input. -/
def knuthRelabelWrong : ChangeSpec := { name := "knuthRelabel", fn := fun _ => fun
  | [d1, d2] => { results := [.lit (.bool false)], args := [d1, d2] }
  | _ => none }
def KnuthRelabelWrongFalsely : Prop := knuthRelabelRow.holds Try.pinned (OpenSpec.ofChange knuthRelabelWrong)

/-- 'emendatelaw33.OutsideMatchesReference': WHATEVER THE INPUT: true; the input reads as it did. -/
def outsideMatchesReferenceSpec : ChangeSpec := { name := "outsideMatchesReference", fn := fun _ => fun
  | [d1, d2] => { results := [.lit (.bool true)], args := [d1, d2] }
  | _ => none }
def outsideMatchesReferenceRow : OpenClaim := { program := "ytepfbhigeghjjaa", sum := "57b12bea10d699fd09bb44eeb07fde6c4bbb3309800030166703d6614467401f", func := "emendate/emendatelaw33.OutsideMatchesReference", spec := "outsideMatchesReference", unfollowed := true, recurses := true, apart := false }
def OutsideMatchesReferenceSaid : Prop := outsideMatchesReferenceRow.holds Try.pinned (OpenSpec.ofChange outsideMatchesReferenceSpec)

/-- ITS FALSE NEIGHBOUR: 'it returns false'. Refute it at one input. -/
def outsideMatchesReferenceWrong : ChangeSpec := { name := "outsideMatchesReference", fn := fun _ => fun
  | [d1, d2] => { results := [.lit (.bool false)], args := [d1, d2] }
  | _ => none }
def OutsideMatchesReferenceWrongFalsely : Prop := outsideMatchesReferenceRow.holds Try.pinned (OpenSpec.ofChange outsideMatchesReferenceWrong)

/-- 'emendatelaw33.OutsideThroughMatchesReference': WHATEVER THE INPUT: true; the input reads as it did. -/
def outsideThroughMatchesReferenceSpec : ChangeSpec := { name := "outsideThroughMatchesReference", fn := fun _ => fun
  | [d1, d2] => { results := [.lit (.bool true)], args := [d1, d2] }
  | _ => none }
def outsideThroughMatchesReferenceRow : OpenClaim := { program := "ytepfbhigeghjjaa", sum := "57b12bea10d699fd09bb44eeb07fde6c4bbb3309800030166703d6614467401f", func := "emendate/emendatelaw33.OutsideThroughMatchesReference", spec := "outsideThroughMatchesReference", unfollowed := true, recurses := true, apart := false }
def OutsideThroughMatchesReferenceSaid : Prop := outsideThroughMatchesReferenceRow.holds Try.pinned (OpenSpec.ofChange outsideThroughMatchesReferenceSpec)

/-- ITS FALSE NEIGHBOUR: 'it returns false'. Refute it at one input. -/
def outsideThroughMatchesReferenceWrong : ChangeSpec := { name := "outsideThroughMatchesReference", fn := fun _ => fun
  | [d1, d2] => { results := [.lit (.bool false)], args := [d1, d2] }
  | _ => none }
def OutsideThroughMatchesReferenceWrongFalsely : Prop := outsideThroughMatchesReferenceRow.holds Try.pinned (OpenSpec.ofChange outsideThroughMatchesReferenceWrong)

/-- 'emendatelaw33.OutsideThroughIsLowerBound': WHATEVER THE INPUT: true; the input reads as it did. -/
def outsideThroughIsLowerBoundSpec : ChangeSpec := { name := "outsideThroughIsLowerBound", fn := fun _ => fun
  | [d1, d2, d3] => { results := [.lit (.bool true)], args := [d1, d2, d3] }
  | _ => none }
def outsideThroughIsLowerBoundRow : OpenClaim := { program := "ytepfbhigeghjjaa", sum := "57b12bea10d699fd09bb44eeb07fde6c4bbb3309800030166703d6614467401f", func := "emendate/emendatelaw33.OutsideThroughIsLowerBound", spec := "outsideThroughIsLowerBound", unfollowed := true, recurses := true, loops := true, apart := false }
def OutsideThroughIsLowerBoundSaid : Prop := outsideThroughIsLowerBoundRow.holds Try.pinned (OpenSpec.ofChange outsideThroughIsLowerBoundSpec)

/-- ITS FALSE NEIGHBOUR: 'it returns false'. Refute it at one input. -/
def outsideThroughIsLowerBoundWrong : ChangeSpec := { name := "outsideThroughIsLowerBound", fn := fun _ => fun
  | [d1, d2, d3] => { results := [.lit (.bool false)], args := [d1, d2, d3] }
  | _ => none }
def OutsideThroughIsLowerBoundWrongFalsely : Prop := outsideThroughIsLowerBoundRow.holds Try.pinned (OpenSpec.ofChange outsideThroughIsLowerBoundWrong)

/-- 'emendatelaw33.OutsideThroughIsAttained': WHATEVER THE INPUT: true; the input reads as it did. -/
def outsideThroughIsAttainedSpec : ChangeSpec := { name := "outsideThroughIsAttained", fn := fun _ => fun
  | [d1, d2] => { results := [.lit (.bool true)], args := [d1, d2] }
  | _ => none }
def outsideThroughIsAttainedRow : OpenClaim := { program := "ytepfbhigeghjjaa", sum := "57b12bea10d699fd09bb44eeb07fde6c4bbb3309800030166703d6614467401f", func := "emendate/emendatelaw33.OutsideThroughIsAttained", spec := "outsideThroughIsAttained", unfollowed := true, recurses := true, apart := false }
def OutsideThroughIsAttainedSaid : Prop := outsideThroughIsAttainedRow.holds Try.pinned (OpenSpec.ofChange outsideThroughIsAttainedSpec)

/-- ITS FALSE NEIGHBOUR: 'it returns false'. Refute it at one input. -/
def outsideThroughIsAttainedWrong : ChangeSpec := { name := "outsideThroughIsAttained", fn := fun _ => fun
  | [d1, d2] => { results := [.lit (.bool false)], args := [d1, d2] }
  | _ => none }
def OutsideThroughIsAttainedWrongFalsely : Prop := outsideThroughIsAttainedRow.holds Try.pinned (OpenSpec.ofChange outsideThroughIsAttainedWrong)

/-- 'emendatelaw33.OutsideRootEdges': WHATEVER THE INPUT: true; the input reads as it did. -/
def outsideRootEdgesSpec : ChangeSpec := { name := "outsideRootEdges", fn := fun _ => fun
  | [d1, d2] => { results := [.lit (.bool true)], args := [d1, d2] }
  | _ => none }
def outsideRootEdgesRow : OpenClaim := { program := "ytepfbhigeghjjaa", sum := "57b12bea10d699fd09bb44eeb07fde6c4bbb3309800030166703d6614467401f", func := "emendate/emendatelaw33.OutsideRootEdges", spec := "outsideRootEdges", unfollowed := true, recurses := true, apart := false }
def OutsideRootEdgesSaid : Prop := outsideRootEdgesRow.holds Try.pinned (OpenSpec.ofChange outsideRootEdgesSpec)

/-- ITS FALSE NEIGHBOUR: 'it returns false'. Refute it at one input. -/
def outsideRootEdgesWrong : ChangeSpec := { name := "outsideRootEdges", fn := fun _ => fun
  | [d1, d2] => { results := [.lit (.bool false)], args := [d1, d2] }
  | _ => none }
def OutsideRootEdgesWrongFalsely : Prop := outsideRootEdgesRow.holds Try.pinned (OpenSpec.ofChange outsideRootEdgesWrong)

/- THE SECOND FORM. 'bulk': how many values and letters a reading holds, each counted each time it is reached (what is shared counts as often as it is met; a slice's spare places count too). A statement '..UptoSaid' is the law's where the arguments, and the package variables that the reading takes, are together of bulk at most 1048576: NARROWER than '..Said'. Prove '..Said' where nothing that the law and all that it calls make is longer than what came in: it says more and counts as full. Else prove '..UptoSaid'. A law counts once. -/
mutual
def uptoBulk {H : Type} : DataW H → Nat
  | .lit (.string bytes) => bytes.length + 1
  | .lit _ => 1
  | .nil => 1
  | .ptr d => uptoBulk d + 1
  | .slice elems spare => uptoBulkAll elems + uptoBulkAll spare + 1
  | .agg parts => uptoBulkAll parts + 1
  | .iface _ d => uptoBulk d + 1
  | .map entries => uptoBulkEntries entries + 1
  | .held _ => 1
def uptoBulkAll {H : Type} : List (DataW H) → Nat
  | [] => 0
  | d :: r => uptoBulk d + uptoBulkAll r
def uptoBulkEntries {H : Type} : List (Lit × DataW H) → Nat
  | [] => 0
  | x :: r => uptoBulkEntry x + uptoBulkEntries r
def uptoBulkEntry {H : Type} : Lit × DataW H → Nat
  | (.string bytes, d) => bytes.length + uptoBulk d + 1
  | (_, d) => uptoBulk d + 1
 end
def uptoSmall : (H : Type) → List (DataW H) → Bool := fun _ ds => decide (uptoBulkAll ds ≤ 1048576)
def OpenSpec.upto (s : _root_.Go.ChangeSpec) : _root_.Go.OpenSpec := { _root_.Go.OpenSpec.ofChange s with cond := some uptoSmall }

/-- 'emendatelaw28.PqueueSorts', WHERE WHAT IT READS IS OF BULK AT MOST 1048576: true; the input reads as it did. -/
def pqueueSortsUptoRow : OpenClaim := { program := "ytepfbhigeghjjaa", sum := "57b12bea10d699fd09bb44eeb07fde6c4bbb3309800030166703d6614467401f", func := "emendate/emendatelaw28.PqueueSorts", spec := "pqueueSorts", unfollowed := true, recurses := true, apart := false, narrowed := true }
def PqueueSortsUptoSaid : Prop := pqueueSortsUptoRow.holds Try.pinned (OpenSpec.upto pqueueSortsSpec)

/-- 'emendatelaw28.PqueueUpdates', WHERE WHAT IT READS IS OF BULK AT MOST 1048576: true; the input reads as it did. -/
def pqueueUpdatesUptoRow : OpenClaim := { program := "ytepfbhigeghjjaa", sum := "57b12bea10d699fd09bb44eeb07fde6c4bbb3309800030166703d6614467401f", func := "emendate/emendatelaw28.PqueueUpdates", spec := "pqueueUpdates", unfollowed := true, recurses := true, apart := false, narrowed := true }
def PqueueUpdatesUptoSaid : Prop := pqueueUpdatesUptoRow.holds Try.pinned (OpenSpec.upto pqueueUpdatesSpec)

/-- 'emendatelaw28.PqueuePlays', WHERE WHAT IT READS IS OF BULK AT MOST 1048576: true; the input reads as it did. -/
def pqueuePlaysUptoRow : OpenClaim := { program := "ytepfbhigeghjjaa", sum := "57b12bea10d699fd09bb44eeb07fde6c4bbb3309800030166703d6614467401f", func := "emendate/emendatelaw28.PqueuePlays", spec := "pqueuePlays", unfollowed := true, recurses := true, apart := false, narrowed := true }
def PqueuePlaysUptoSaid : Prop := pqueuePlaysUptoRow.holds Try.pinned (OpenSpec.upto pqueuePlaysSpec)

/-- 'emendatelaw28.PqueuePeeks', WHERE WHAT IT READS IS OF BULK AT MOST 1048576: true; the input reads as it did. -/
def pqueuePeeksUptoRow : OpenClaim := { program := "ytepfbhigeghjjaa", sum := "57b12bea10d699fd09bb44eeb07fde6c4bbb3309800030166703d6614467401f", func := "emendate/emendatelaw28.PqueuePeeks", spec := "pqueuePeeks", unfollowed := true, recurses := true, apart := false, narrowed := true }
def PqueuePeeksUptoSaid : Prop := pqueuePeeksUptoRow.holds Try.pinned (OpenSpec.upto pqueuePeeksSpec)

/-- 'emendatelaw28.PqueueMerges', WHERE WHAT IT READS IS OF BULK AT MOST 1048576: true; the input reads as it did. -/
def pqueueMergesUptoRow : OpenClaim := { program := "ytepfbhigeghjjaa", sum := "57b12bea10d699fd09bb44eeb07fde6c4bbb3309800030166703d6614467401f", func := "emendate/emendatelaw28.PqueueMerges", spec := "pqueueMerges", unfollowed := true, recurses := true, apart := false, narrowed := true }
def PqueueMergesUptoSaid : Prop := pqueueMergesUptoRow.holds Try.pinned (OpenSpec.upto pqueueMergesSpec)

/-- 'emendatelaw33.OutsideUnreachable', WHERE WHAT IT READS IS OF BULK AT MOST 1048576: true; the input reads as it did. -/
def outsideUnreachableUptoRow : OpenClaim := { program := "ytepfbhigeghjjaa", sum := "57b12bea10d699fd09bb44eeb07fde6c4bbb3309800030166703d6614467401f", func := "emendate/emendatelaw33.OutsideUnreachable", spec := "outsideUnreachable", unfollowed := true, recurses := true, apart := false, narrowed := true }
def OutsideUnreachableUptoSaid : Prop := outsideUnreachableUptoRow.holds Try.pinned (OpenSpec.upto outsideUnreachableSpec)

/-- 'emendatelaw29.KnuthLess', WHERE WHAT IT READS IS OF BULK AT MOST 1048576: true; the input reads as it did. -/
def knuthLessUptoRow : OpenClaim := { program := "ytepfbhigeghjjaa", sum := "57b12bea10d699fd09bb44eeb07fde6c4bbb3309800030166703d6614467401f", func := "emendate/emendatelaw29.KnuthLess", spec := "knuthLess", unfollowed := true, recurses := true, apart := false, narrowed := true }
def KnuthLessUptoSaid : Prop := knuthLessUptoRow.holds Try.pinned (OpenSpec.upto knuthLessSpec)

/-- 'emendatelaw33.OutsideCheaperEdge', WHERE WHAT IT READS IS OF BULK AT MOST 1048576: true; the input reads as it did. -/
def outsideCheaperEdgeUptoRow : OpenClaim := { program := "ytepfbhigeghjjaa", sum := "57b12bea10d699fd09bb44eeb07fde6c4bbb3309800030166703d6614467401f", func := "emendate/emendatelaw33.OutsideCheaperEdge", spec := "outsideCheaperEdge", unfollowed := true, recurses := true, apart := false, narrowed := true }
def OutsideCheaperEdgeUptoSaid : Prop := outsideCheaperEdgeUptoRow.holds Try.pinned (OpenSpec.upto outsideCheaperEdgeSpec)

/-- 'emendatelaw29.KnuthCombine', WHERE WHAT IT READS IS OF BULK AT MOST 1048576: true; the input reads as it did. -/
def knuthCombineUptoRow : OpenClaim := { program := "ytepfbhigeghjjaa", sum := "57b12bea10d699fd09bb44eeb07fde6c4bbb3309800030166703d6614467401f", func := "emendate/emendatelaw29.KnuthCombine", spec := "knuthCombine", unfollowed := true, recurses := true, apart := false, narrowed := true }
def KnuthCombineUptoSaid : Prop := knuthCombineUptoRow.holds Try.pinned (OpenSpec.upto knuthCombineSpec)

/-- 'emendatelaw29.KnuthSuperior', WHERE WHAT IT READS IS OF BULK AT MOST 1048576: true; the input reads as it did. -/
def knuthSuperiorUptoRow : OpenClaim := { program := "ytepfbhigeghjjaa", sum := "57b12bea10d699fd09bb44eeb07fde6c4bbb3309800030166703d6614467401f", func := "emendate/emendatelaw29.KnuthSuperior", spec := "knuthSuperior", unfollowed := true, recurses := true, apart := false, narrowed := true }
def KnuthSuperiorUptoSaid : Prop := knuthSuperiorUptoRow.holds Try.pinned (OpenSpec.upto knuthSuperiorSpec)

/-- 'emendatelaw29.KnuthSolve', WHERE WHAT IT READS IS OF BULK AT MOST 1048576: true; the input reads as it did. -/
def knuthSolveUptoRow : OpenClaim := { program := "ytepfbhigeghjjaa", sum := "57b12bea10d699fd09bb44eeb07fde6c4bbb3309800030166703d6614467401f", func := "emendate/emendatelaw29.KnuthSolve", spec := "knuthSolve", unfollowed := true, recurses := true, apart := false, narrowed := true }
def KnuthSolveUptoSaid : Prop := knuthSolveUptoRow.holds Try.pinned (OpenSpec.upto knuthSolveSpec)

/-- 'emendatelaw29.KnuthFixpoint', WHERE WHAT IT READS IS OF BULK AT MOST 1048576: true; the input reads as it did. -/
def knuthFixpointUptoRow : OpenClaim := { program := "ytepfbhigeghjjaa", sum := "57b12bea10d699fd09bb44eeb07fde6c4bbb3309800030166703d6614467401f", func := "emendate/emendatelaw29.KnuthFixpoint", spec := "knuthFixpoint", unfollowed := true, recurses := true, apart := false, narrowed := true }
def KnuthFixpointUptoSaid : Prop := knuthFixpointUptoRow.holds Try.pinned (OpenSpec.upto knuthFixpointSpec)

/-- 'emendatelaw29.KnuthLowerBound', WHERE WHAT IT READS IS OF BULK AT MOST 1048576: true; the input reads as it did. -/
def knuthLowerBoundUptoRow : OpenClaim := { program := "ytepfbhigeghjjaa", sum := "57b12bea10d699fd09bb44eeb07fde6c4bbb3309800030166703d6614467401f", func := "emendate/emendatelaw29.KnuthLowerBound", spec := "knuthLowerBound", unfollowed := true, recurses := true, loops := true, apart := false, narrowed := true }
def KnuthLowerBoundUptoSaid : Prop := knuthLowerBoundUptoRow.holds Try.pinned (OpenSpec.upto knuthLowerBoundSpec)

/-- 'emendatelaw29.KnuthChosenEdges', WHERE WHAT IT READS IS OF BULK AT MOST 1048576: true; the input reads as it did. -/
def knuthChosenEdgesUptoRow : OpenClaim := { program := "ytepfbhigeghjjaa", sum := "57b12bea10d699fd09bb44eeb07fde6c4bbb3309800030166703d6614467401f", func := "emendate/emendatelaw29.KnuthChosenEdges", spec := "knuthChosenEdges", unfollowed := true, recurses := true, apart := false, narrowed := true }
def KnuthChosenEdgesUptoSaid : Prop := knuthChosenEdgesUptoRow.holds Try.pinned (OpenSpec.upto knuthChosenEdgesSpec)

/-- 'emendatelaw29.KnuthMonotone', WHERE WHAT IT READS IS OF BULK AT MOST 1048576: true; the input reads as it did. -/
def knuthMonotoneUptoRow : OpenClaim := { program := "ytepfbhigeghjjaa", sum := "57b12bea10d699fd09bb44eeb07fde6c4bbb3309800030166703d6614467401f", func := "emendate/emendatelaw29.KnuthMonotone", spec := "knuthMonotone", unfollowed := true, recurses := true, apart := false, narrowed := true }
def KnuthMonotoneUptoSaid : Prop := knuthMonotoneUptoRow.holds Try.pinned (OpenSpec.upto knuthMonotoneSpec)

/-- 'emendatelaw29.KnuthScale', WHERE WHAT IT READS IS OF BULK AT MOST 1048576: true; the input reads as it did. -/
def knuthScaleUptoRow : OpenClaim := { program := "ytepfbhigeghjjaa", sum := "57b12bea10d699fd09bb44eeb07fde6c4bbb3309800030166703d6614467401f", func := "emendate/emendatelaw29.KnuthScale", spec := "knuthScale", unfollowed := true, recurses := true, apart := false, narrowed := true }
def KnuthScaleUptoSaid : Prop := knuthScaleUptoRow.holds Try.pinned (OpenSpec.upto knuthScaleSpec)

/-- 'emendatelaw29.KnuthRelabel', WHERE WHAT IT READS IS OF BULK AT MOST 1048576: true; the input reads as it did. -/
def knuthRelabelUptoRow : OpenClaim := { program := "ytepfbhigeghjjaa", sum := "57b12bea10d699fd09bb44eeb07fde6c4bbb3309800030166703d6614467401f", func := "emendate/emendatelaw29.KnuthRelabel", spec := "knuthRelabel", unfollowed := true, recurses := true, apart := false, narrowed := true }
def KnuthRelabelUptoSaid : Prop := knuthRelabelUptoRow.holds Try.pinned (OpenSpec.upto knuthRelabelSpec)

/-- 'emendatelaw33.OutsideMatchesReference', WHERE WHAT IT READS IS OF BULK AT MOST 1048576: true; the input reads as it did. -/
def outsideMatchesReferenceUptoRow : OpenClaim := { program := "ytepfbhigeghjjaa", sum := "57b12bea10d699fd09bb44eeb07fde6c4bbb3309800030166703d6614467401f", func := "emendate/emendatelaw33.OutsideMatchesReference", spec := "outsideMatchesReference", unfollowed := true, recurses := true, apart := false, narrowed := true }
def OutsideMatchesReferenceUptoSaid : Prop := outsideMatchesReferenceUptoRow.holds Try.pinned (OpenSpec.upto outsideMatchesReferenceSpec)

/-- 'emendatelaw33.OutsideThroughMatchesReference', WHERE WHAT IT READS IS OF BULK AT MOST 1048576: true; the input reads as it did. -/
def outsideThroughMatchesReferenceUptoRow : OpenClaim := { program := "ytepfbhigeghjjaa", sum := "57b12bea10d699fd09bb44eeb07fde6c4bbb3309800030166703d6614467401f", func := "emendate/emendatelaw33.OutsideThroughMatchesReference", spec := "outsideThroughMatchesReference", unfollowed := true, recurses := true, apart := false, narrowed := true }
def OutsideThroughMatchesReferenceUptoSaid : Prop := outsideThroughMatchesReferenceUptoRow.holds Try.pinned (OpenSpec.upto outsideThroughMatchesReferenceSpec)

/-- 'emendatelaw33.OutsideThroughIsLowerBound', WHERE WHAT IT READS IS OF BULK AT MOST 1048576: true; the input reads as it did. -/
def outsideThroughIsLowerBoundUptoRow : OpenClaim := { program := "ytepfbhigeghjjaa", sum := "57b12bea10d699fd09bb44eeb07fde6c4bbb3309800030166703d6614467401f", func := "emendate/emendatelaw33.OutsideThroughIsLowerBound", spec := "outsideThroughIsLowerBound", unfollowed := true, recurses := true, loops := true, apart := false, narrowed := true }
def OutsideThroughIsLowerBoundUptoSaid : Prop := outsideThroughIsLowerBoundUptoRow.holds Try.pinned (OpenSpec.upto outsideThroughIsLowerBoundSpec)

/-- 'emendatelaw33.OutsideThroughIsAttained', WHERE WHAT IT READS IS OF BULK AT MOST 1048576: true; the input reads as it did. -/
def outsideThroughIsAttainedUptoRow : OpenClaim := { program := "ytepfbhigeghjjaa", sum := "57b12bea10d699fd09bb44eeb07fde6c4bbb3309800030166703d6614467401f", func := "emendate/emendatelaw33.OutsideThroughIsAttained", spec := "outsideThroughIsAttained", unfollowed := true, recurses := true, apart := false, narrowed := true }
def OutsideThroughIsAttainedUptoSaid : Prop := outsideThroughIsAttainedUptoRow.holds Try.pinned (OpenSpec.upto outsideThroughIsAttainedSpec)

/-- 'emendatelaw33.OutsideRootEdges', WHERE WHAT IT READS IS OF BULK AT MOST 1048576: true; the input reads as it did. -/
def outsideRootEdgesUptoRow : OpenClaim := { program := "ytepfbhigeghjjaa", sum := "57b12bea10d699fd09bb44eeb07fde6c4bbb3309800030166703d6614467401f", func := "emendate/emendatelaw33.OutsideRootEdges", spec := "outsideRootEdges", unfollowed := true, recurses := true, apart := false, narrowed := true }
def OutsideRootEdgesUptoSaid : Prop := outsideRootEdgesUptoRow.holds Try.pinned (OpenSpec.upto outsideRootEdgesSpec)

end Rows
end Go.Proofs.Ytepfbhigeghjjaa
