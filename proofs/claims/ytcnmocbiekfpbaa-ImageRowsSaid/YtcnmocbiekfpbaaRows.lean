/-
  No cell of these rows narrows 'for every input' (looked for: loops, veiled, ifaces, maps, wideKeys, modest, calm, conditions, laid).
  DERIVED. THE GIVEN ROWS OF THIS SEAT. 6 by the template 'for every input the law returns true; each argument reads behind the call as it read before'; 0 by the template 'total and deterministic' (their statements: YtcnmocbiekfpbaaTotals.lean).
  GIVEN WITH THE SEED: the statements are not yours to turn. If you find one false, say at which input.
  Laid BY PROGRAM, IN A SANDBOX (cutbox-rows.mjs): the forced cells as the released guide's own fill.sh prints them over the translation 8cb85b4b997b8260… (all of the seat's roots in one cut). By AI agents, Wed Nov 11 2026. No macro, syntax, notation, axiom, sorry.
-/
import Derived.Test.YtcnmocbiekfpbaaChecked
import GoSem.Claim
import GoSem.ClaimJoined
import GoSem.ClaimMapViews
import Derived.JoinedTies
import Derived.KernelRfl
namespace Go.Proofs.Ytcnmocbiekfpbaa
/- THE CELL 'sum', in the pinned program and in every row, IS THE sha256 OF THE DUMP (.gsa) THAT YtcnmocbiekfpbaaProg.lean LOADS. Nothing in Lean hashes anything: it is a label: what it is worth is what the hold of that sum in a sandbox is worth. -/
noncomputable def Try.pinned : Pinned := { name := "ytcnmocbiekfpbaa", sum := "8cb85b4b997b826001ce371d4f2865fb60c2654aa22c9f34a3cf2f3a824c81f8", checked := Try.checked }
namespace Rows
def none {H : Type} : Left H := { results := [], args := [] }

/-- 'twoslotlaw09.ImageNames': WHATEVER THE INPUT: true; the input reads as it did. -/
def imageNamesSpec : ChangeSpec := { name := "imageNames", fn := fun _ => fun
  | [] => { results := [.lit (.bool true)], args := [] }
  | _ => none }
def imageNamesRow : OpenClaim := { program := "ytcnmocbiekfpbaa", sum := "8cb85b4b997b826001ce371d4f2865fb60c2654aa22c9f34a3cf2f3a824c81f8", func := "twoslot/twoslotlaw09.ImageNames", spec := "imageNames", unfollowed := true, recurses := true, apart := false }
def ImageNamesSaid : Prop := imageNamesRow.holds Try.pinned (OpenSpec.ofChange imageNamesSpec)

/-- ITS FALSE NEIGHBOUR: 'it returns false'. Refute it at one input. -/
def imageNamesWrong : ChangeSpec := { name := "imageNames", fn := fun _ => fun
  | [] => { results := [.lit (.bool false)], args := [] }
  | _ => none }
def ImageNamesWrongFalsely : Prop := imageNamesRow.holds Try.pinned (OpenSpec.ofChange imageNamesWrong)

/-- 'twoslotlaw09.ImageWrites': WHATEVER THE INPUT: true; the input reads as it did. -/
def imageWritesSpec : ChangeSpec := { name := "imageWrites", fn := fun _ => fun
  | [d1, d2, d3, d4] => { results := [.lit (.bool true)], args := [d1, d2, d3, d4] }
  | _ => none }
def imageWritesRow : OpenClaim := { program := "ytcnmocbiekfpbaa", sum := "8cb85b4b997b826001ce371d4f2865fb60c2654aa22c9f34a3cf2f3a824c81f8", func := "twoslot/twoslotlaw09.ImageWrites", spec := "imageWrites", unfollowed := true, recurses := true, apart := false }
def ImageWritesSaid : Prop := imageWritesRow.holds Try.pinned (OpenSpec.ofChange imageWritesSpec)

/-- ITS FALSE NEIGHBOUR: 'it returns false'. Refute it at one input. -/
def imageWritesWrong : ChangeSpec := { name := "imageWrites", fn := fun _ => fun
  | [d1, d2, d3, d4] => { results := [.lit (.bool false)], args := [d1, d2, d3, d4] }
  | _ => none }
def ImageWritesWrongFalsely : Prop := imageWritesRow.holds Try.pinned (OpenSpec.ofChange imageWritesWrong)

/-- 'twoslotlaw09.ImageRows': WHATEVER THE INPUT: true; the input reads as it did. -/
def imageRowsSpec : ChangeSpec := { name := "imageRows", fn := fun _ => fun
  | [d1, d2, d3, d4] => { results := [.lit (.bool true)], args := [d1, d2, d3, d4] }
  | _ => none }
def imageRowsRow : OpenClaim := { program := "ytcnmocbiekfpbaa", sum := "8cb85b4b997b826001ce371d4f2865fb60c2654aa22c9f34a3cf2f3a824c81f8", func := "twoslot/twoslotlaw09.ImageRows", spec := "imageRows", unfollowed := true, recurses := true, apart := false }
def ImageRowsSaid : Prop := imageRowsRow.holds Try.pinned (OpenSpec.ofChange imageRowsSpec)

/-- ITS FALSE NEIGHBOUR: 'it returns false'. Refute it at one input. -/
def imageRowsWrong : ChangeSpec := { name := "imageRows", fn := fun _ => fun
  | [d1, d2, d3, d4] => { results := [.lit (.bool false)], args := [d1, d2, d3, d4] }
  | _ => none }
def ImageRowsWrongFalsely : Prop := imageRowsRow.holds Try.pinned (OpenSpec.ofChange imageRowsWrong)

/-- 'twoslotlaw09.ImageMeets': WHATEVER THE INPUT: true; the input reads as it did. -/
def imageMeetsSpec : ChangeSpec := { name := "imageMeets", fn := fun _ => fun
  | [d] => { results := [.lit (.bool true)], args := [d] }
  | _ => none }
def imageMeetsRow : OpenClaim := { program := "ytcnmocbiekfpbaa", sum := "8cb85b4b997b826001ce371d4f2865fb60c2654aa22c9f34a3cf2f3a824c81f8", func := "twoslot/twoslotlaw09.ImageMeets", spec := "imageMeets", unfollowed := true, recurses := true, apart := false }
def ImageMeetsSaid : Prop := imageMeetsRow.holds Try.pinned (OpenSpec.ofChange imageMeetsSpec)

/-- ITS FALSE NEIGHBOUR: 'it returns false'. Refute it at one input. -/
def imageMeetsWrong : ChangeSpec := { name := "imageMeets", fn := fun _ => fun
  | [d] => { results := [.lit (.bool false)], args := [d] }
  | _ => none }
def ImageMeetsWrongFalsely : Prop := imageMeetsRow.holds Try.pinned (OpenSpec.ofChange imageMeetsWrong)

/-- 'twoslotlaw09.ImageSteps': WHATEVER THE INPUT: true; the input reads as it did. -/
def imageStepsSpec : ChangeSpec := { name := "imageSteps", fn := fun _ => fun
  | [d1, d2, d3, d4] => { results := [.lit (.bool true)], args := [d1, d2, d3, d4] }
  | _ => none }
def imageStepsRow : OpenClaim := { program := "ytcnmocbiekfpbaa", sum := "8cb85b4b997b826001ce371d4f2865fb60c2654aa22c9f34a3cf2f3a824c81f8", func := "twoslot/twoslotlaw09.ImageSteps", spec := "imageSteps", unfollowed := true, recurses := true, apart := false }
def ImageStepsSaid : Prop := imageStepsRow.holds Try.pinned (OpenSpec.ofChange imageStepsSpec)

/-- ITS FALSE NEIGHBOUR: 'it returns false'. Refute it at one input. -/
def imageStepsWrong : ChangeSpec := { name := "imageSteps", fn := fun _ => fun
  | [d1, d2, d3, d4] => { results := [.lit (.bool false)], args := [d1, d2, d3, d4] }
  | _ => none }
def ImageStepsWrongFalsely : Prop := imageStepsRow.holds Try.pinned (OpenSpec.ofChange imageStepsWrong)

/-- 'twoslotlaw09.ImageDiffs': WHATEVER THE INPUT: true; the input reads as it did. -/
def imageDiffsSpec : ChangeSpec := { name := "imageDiffs", fn := fun _ => fun
  | [d1, d2] => { results := [.lit (.bool true)], args := [d1, d2] }
  | _ => none }
def imageDiffsRow : OpenClaim := { program := "ytcnmocbiekfpbaa", sum := "8cb85b4b997b826001ce371d4f2865fb60c2654aa22c9f34a3cf2f3a824c81f8", func := "twoslot/twoslotlaw09.ImageDiffs", spec := "imageDiffs", unfollowed := true, recurses := true, apart := false }
def ImageDiffsSaid : Prop := imageDiffsRow.holds Try.pinned (OpenSpec.ofChange imageDiffsSpec)

/-- ITS FALSE NEIGHBOUR: 'it returns false'. Refute it at one input. -/
def imageDiffsWrong : ChangeSpec := { name := "imageDiffs", fn := fun _ => fun
  | [d1, d2] => { results := [.lit (.bool false)], args := [d1, d2] }
  | _ => none }
def ImageDiffsWrongFalsely : Prop := imageDiffsRow.holds Try.pinned (OpenSpec.ofChange imageDiffsWrong)

/- THE SECOND FORM. 'bulk': how many values and letters a reading holds, each counted each time it is reached (what is shared counts as often as it is met; a slice's spare places count too). A statement '..UptoSaid' is the law's where the arguments, and the package variables that the reading takes, are together of bulk at most 1048576: NARROWER than '..Said'. Prove '..Said' where nothing that the law and all that it calls make is longer than what came in: it says more and counts as full. Else prove '..UptoSaid'. A law counts once. -/
mutual
def uptoBulk {H : Type} : DataW H → Nat
  | .lit (.string bytes) => bytes.length + 1
  | .lit _ => 1
  | .nil => 1
  | .ptr d => uptoBulk d + 1
  | .slice elems spare => uptoBulkAll elems + uptoBulkAll spare + 1
  | .agg parts => uptoBulkAll parts + 1
  | .iface _ d => uptoBulk d + 1
  | .map entries => uptoBulkEntries entries + 1
  | .held _ => 1
def uptoBulkAll {H : Type} : List (DataW H) → Nat
  | [] => 0
  | d :: r => uptoBulk d + uptoBulkAll r
def uptoBulkEntries {H : Type} : List (Lit × DataW H) → Nat
  | [] => 0
  | x :: r => uptoBulkEntry x + uptoBulkEntries r
def uptoBulkEntry {H : Type} : Lit × DataW H → Nat
  | (.string bytes, d) => bytes.length + uptoBulk d + 1
  | (_, d) => uptoBulk d + 1
 end
def uptoSmall : (H : Type) → List (DataW H) → Bool := fun _ ds => decide (uptoBulkAll ds ≤ 1048576)
def OpenSpec.upto (s : _root_.Go.ChangeSpec) : _root_.Go.OpenSpec := { _root_.Go.OpenSpec.ofChange s with cond := some uptoSmall }

/-- 'twoslotlaw09.ImageNames', WHERE WHAT IT READS IS OF BULK AT MOST 1048576: true; the input reads as it did. -/
def imageNamesUptoRow : OpenClaim := { program := "ytcnmocbiekfpbaa", sum := "8cb85b4b997b826001ce371d4f2865fb60c2654aa22c9f34a3cf2f3a824c81f8", func := "twoslot/twoslotlaw09.ImageNames", spec := "imageNames", unfollowed := true, recurses := true, apart := false, narrowed := true }
def ImageNamesUptoSaid : Prop := imageNamesUptoRow.holds Try.pinned (OpenSpec.upto imageNamesSpec)

/-- 'twoslotlaw09.ImageWrites', WHERE WHAT IT READS IS OF BULK AT MOST 1048576: true; the input reads as it did. -/
def imageWritesUptoRow : OpenClaim := { program := "ytcnmocbiekfpbaa", sum := "8cb85b4b997b826001ce371d4f2865fb60c2654aa22c9f34a3cf2f3a824c81f8", func := "twoslot/twoslotlaw09.ImageWrites", spec := "imageWrites", unfollowed := true, recurses := true, apart := false, narrowed := true }
def ImageWritesUptoSaid : Prop := imageWritesUptoRow.holds Try.pinned (OpenSpec.upto imageWritesSpec)

/-- 'twoslotlaw09.ImageRows', WHERE WHAT IT READS IS OF BULK AT MOST 1048576: true; the input reads as it did. -/
def imageRowsUptoRow : OpenClaim := { program := "ytcnmocbiekfpbaa", sum := "8cb85b4b997b826001ce371d4f2865fb60c2654aa22c9f34a3cf2f3a824c81f8", func := "twoslot/twoslotlaw09.ImageRows", spec := "imageRows", unfollowed := true, recurses := true, apart := false, narrowed := true }
def ImageRowsUptoSaid : Prop := imageRowsUptoRow.holds Try.pinned (OpenSpec.upto imageRowsSpec)

/-- 'twoslotlaw09.ImageMeets', WHERE WHAT IT READS IS OF BULK AT MOST 1048576: true; the input reads as it did. -/
def imageMeetsUptoRow : OpenClaim := { program := "ytcnmocbiekfpbaa", sum := "8cb85b4b997b826001ce371d4f2865fb60c2654aa22c9f34a3cf2f3a824c81f8", func := "twoslot/twoslotlaw09.ImageMeets", spec := "imageMeets", unfollowed := true, recurses := true, apart := false, narrowed := true }
def ImageMeetsUptoSaid : Prop := imageMeetsUptoRow.holds Try.pinned (OpenSpec.upto imageMeetsSpec)

/-- 'twoslotlaw09.ImageSteps', WHERE WHAT IT READS IS OF BULK AT MOST 1048576: true; the input reads as it did. -/
def imageStepsUptoRow : OpenClaim := { program := "ytcnmocbiekfpbaa", sum := "8cb85b4b997b826001ce371d4f2865fb60c2654aa22c9f34a3cf2f3a824c81f8", func := "twoslot/twoslotlaw09.ImageSteps", spec := "imageSteps", unfollowed := true, recurses := true, apart := false, narrowed := true }
def ImageStepsUptoSaid : Prop := imageStepsUptoRow.holds Try.pinned (OpenSpec.upto imageStepsSpec)

/-- 'twoslotlaw09.ImageDiffs', WHERE WHAT IT READS IS OF BULK AT MOST 1048576: true; the input reads as it did. -/
def imageDiffsUptoRow : OpenClaim := { program := "ytcnmocbiekfpbaa", sum := "8cb85b4b997b826001ce371d4f2865fb60c2654aa22c9f34a3cf2f3a824c81f8", func := "twoslot/twoslotlaw09.ImageDiffs", spec := "imageDiffs", unfollowed := true, recurses := true, apart := false, narrowed := true }
def ImageDiffsUptoSaid : Prop := imageDiffsUptoRow.holds Try.pinned (OpenSpec.upto imageDiffsSpec)

end Rows
end Go.Proofs.Ytcnmocbiekfpbaa
