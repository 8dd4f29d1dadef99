/-
  No cell of these rows narrows 'for every input' (looked for: loops, veiled, ifaces, maps, wideKeys, modest, calm, conditions, laid).
  DERIVED. THE GIVEN ROWS OF THIS SEAT. 5 by the template 'for every input the law returns true; each argument reads behind the call as it read before'; 0 by the template 'total and deterministic' (their statements: YtgcodjkedifpaaaTotals.lean).
  GIVEN WITH THE SEED: the statements are not yours to turn. If you find one false, say at which input.
  Laid BY PROGRAM, IN A SANDBOX (cutbox-rows.mjs): the forced cells as the released guide's own fill.sh prints them over the translation ec84516939b6cb04… (all of the seat's roots in one cut). By AI agents, Wed Nov 11 2026. No macro, syntax, notation, axiom, sorry.
-/
import Derived.Test.YtgcodjkedifpaaaChecked
import GoSem.Claim
import GoSem.ClaimJoined
import GoSem.ClaimMapViews
import Derived.JoinedTies
import Derived.KernelRfl
namespace Go.Proofs.Ytgcodjkedifpaaa
/- THE CELL 'sum', in the pinned program and in every row, IS THE sha256 OF THE DUMP (.gsa) THAT YtgcodjkedifpaaaProg.lean LOADS. Nothing in Lean hashes anything: it is a label: what it is worth is what the hold of that sum in a sandbox is worth. -/
noncomputable def Try.pinned : Pinned := { name := "ytgcodjkedifpaaa", sum := "ec84516939b6cb04fb5774e58aa4cf2f2bcf00a3ad6f6997b5e408b147d32b95", checked := Try.checked }
namespace Rows
def none {H : Type} : Left H := { results := [], args := [] }

/-- 'twoslotlaw06.LayoutNumbers': WHATEVER THE INPUT: true; the input reads as it did. -/
def layoutNumbersSpec : ChangeSpec := { name := "layoutNumbers", fn := fun _ => fun
  | [d] => { results := [.lit (.bool true)], args := [d] }
  | _ => none }
def layoutNumbersRow : OpenClaim := { program := "ytgcodjkedifpaaa", sum := "ec84516939b6cb04fb5774e58aa4cf2f2bcf00a3ad6f6997b5e408b147d32b95", func := "twoslot/twoslotlaw06.LayoutNumbers", spec := "layoutNumbers", unfollowed := true, recurses := true, apart := false }
def LayoutNumbersSaid : Prop := layoutNumbersRow.holds Try.pinned (OpenSpec.ofChange layoutNumbersSpec)

/-- ITS FALSE NEIGHBOUR: 'it returns false'. Refute it at one input. -/
def layoutNumbersWrong : ChangeSpec := { name := "layoutNumbers", fn := fun _ => fun
  | [d] => { results := [.lit (.bool false)], args := [d] }
  | _ => none }
def LayoutNumbersWrongFalsely : Prop := layoutNumbersRow.holds Try.pinned (OpenSpec.ofChange layoutNumbersWrong)

/-- 'twoslotlaw06.LayoutSpans': WHATEVER THE INPUT: true; the input reads as it did. -/
def layoutSpansSpec : ChangeSpec := { name := "layoutSpans", fn := fun _ => fun
  | [d1, d2, d3] => { results := [.lit (.bool true)], args := [d1, d2, d3] }
  | _ => none }
def layoutSpansRow : OpenClaim := { program := "ytgcodjkedifpaaa", sum := "ec84516939b6cb04fb5774e58aa4cf2f2bcf00a3ad6f6997b5e408b147d32b95", func := "twoslot/twoslotlaw06.LayoutSpans", spec := "layoutSpans", unfollowed := true, recurses := true, apart := false }
def LayoutSpansSaid : Prop := layoutSpansRow.holds Try.pinned (OpenSpec.ofChange layoutSpansSpec)

/-- ITS FALSE NEIGHBOUR: 'it returns false'. Refute it at one input. -/
def layoutSpansWrong : ChangeSpec := { name := "layoutSpans", fn := fun _ => fun
  | [d1, d2, d3] => { results := [.lit (.bool false)], args := [d1, d2, d3] }
  | _ => none }
def LayoutSpansWrongFalsely : Prop := layoutSpansRow.holds Try.pinned (OpenSpec.ofChange layoutSpansWrong)

/-- 'twoslotlaw06.LayoutWhole': WHATEVER THE INPUT: true; the input reads as it did. -/
def layoutWholeSpec : ChangeSpec := { name := "layoutWhole", fn := fun _ => fun
  | [d1, d2, d3] => { results := [.lit (.bool true)], args := [d1, d2, d3] }
  | _ => none }
def layoutWholeRow : OpenClaim := { program := "ytgcodjkedifpaaa", sum := "ec84516939b6cb04fb5774e58aa4cf2f2bcf00a3ad6f6997b5e408b147d32b95", func := "twoslot/twoslotlaw06.LayoutWhole", spec := "layoutWhole", unfollowed := true, recurses := true, apart := false }
def LayoutWholeSaid : Prop := layoutWholeRow.holds Try.pinned (OpenSpec.ofChange layoutWholeSpec)

/-- ITS FALSE NEIGHBOUR: 'it returns false'. Refute it at one input. -/
def layoutWholeWrong : ChangeSpec := { name := "layoutWhole", fn := fun _ => fun
  | [d1, d2, d3] => { results := [.lit (.bool false)], args := [d1, d2, d3] }
  | _ => none }
def LayoutWholeWrongFalsely : Prop := layoutWholeRow.holds Try.pinned (OpenSpec.ofChange layoutWholeWrong)

/-- 'twoslotlaw06.LayoutObject': WHATEVER THE INPUT: true; the input reads as it did. -/
def layoutObjectSpec : ChangeSpec := { name := "layoutObject", fn := fun _ => fun
  | [d1, d2] => { results := [.lit (.bool true)], args := [d1, d2] }
  | _ => none }
def layoutObjectRow : OpenClaim := { program := "ytgcodjkedifpaaa", sum := "ec84516939b6cb04fb5774e58aa4cf2f2bcf00a3ad6f6997b5e408b147d32b95", func := "twoslot/twoslotlaw06.LayoutObject", spec := "layoutObject", unfollowed := true, recurses := true, apart := false }
def LayoutObjectSaid : Prop := layoutObjectRow.holds Try.pinned (OpenSpec.ofChange layoutObjectSpec)

/-- ITS FALSE NEIGHBOUR: 'it returns false'. Refute it at one input. -/
def layoutObjectWrong : ChangeSpec := { name := "layoutObject", fn := fun _ => fun
  | [d1, d2] => { results := [.lit (.bool false)], args := [d1, d2] }
  | _ => none }
def LayoutObjectWrongFalsely : Prop := layoutObjectRow.holds Try.pinned (OpenSpec.ofChange layoutObjectWrong)

/-- 'twoslotlaw06.LayoutGrows': WHATEVER THE INPUT: true; the input reads as it did. -/
def layoutGrowsSpec : ChangeSpec := { name := "layoutGrows", fn := fun _ => fun
  | [d1, d2, d3] => { results := [.lit (.bool true)], args := [d1, d2, d3] }
  | _ => none }
def layoutGrowsRow : OpenClaim := { program := "ytgcodjkedifpaaa", sum := "ec84516939b6cb04fb5774e58aa4cf2f2bcf00a3ad6f6997b5e408b147d32b95", func := "twoslot/twoslotlaw06.LayoutGrows", spec := "layoutGrows", unfollowed := true, recurses := true, apart := false }
def LayoutGrowsSaid : Prop := layoutGrowsRow.holds Try.pinned (OpenSpec.ofChange layoutGrowsSpec)

/-- ITS FALSE NEIGHBOUR: 'it returns false'. Refute it at one input. -/
def layoutGrowsWrong : ChangeSpec := { name := "layoutGrows", fn := fun _ => fun
  | [d1, d2, d3] => { results := [.lit (.bool false)], args := [d1, d2, d3] }
  | _ => none }
def LayoutGrowsWrongFalsely : Prop := layoutGrowsRow.holds Try.pinned (OpenSpec.ofChange layoutGrowsWrong)

/- THE SECOND FORM. 'bulk': how many values and letters a reading holds, each counted each time it is reached (what is shared counts as often as it is met; a slice's spare places count too). A statement '..UptoSaid' is the law's where the arguments, and the package variables that the reading takes, are together of bulk at most 1048576: NARROWER than '..Said'. Prove '..Said' where nothing that the law and all that it calls make is longer than what came in: it says more and counts as full. Else prove '..UptoSaid'. A law counts once. -/
mutual
def uptoBulk {H : Type} : DataW H → Nat
  | .lit (.string bytes) => bytes.length + 1
  | .lit _ => 1
  | .nil => 1
  | .ptr d => uptoBulk d + 1
  | .slice elems spare => uptoBulkAll elems + uptoBulkAll spare + 1
  | .agg parts => uptoBulkAll parts + 1
  | .iface _ d => uptoBulk d + 1
  | .map entries => uptoBulkEntries entries + 1
  | .held _ => 1
def uptoBulkAll {H : Type} : List (DataW H) → Nat
  | [] => 0
  | d :: r => uptoBulk d + uptoBulkAll r
def uptoBulkEntries {H : Type} : List (Lit × DataW H) → Nat
  | [] => 0
  | x :: r => uptoBulkEntry x + uptoBulkEntries r
def uptoBulkEntry {H : Type} : Lit × DataW H → Nat
  | (.string bytes, d) => bytes.length + uptoBulk d + 1
  | (_, d) => uptoBulk d + 1
 end
def uptoSmall : (H : Type) → List (DataW H) → Bool := fun _ ds => decide (uptoBulkAll ds ≤ 1048576)
def OpenSpec.upto (s : _root_.Go.ChangeSpec) : _root_.Go.OpenSpec := { _root_.Go.OpenSpec.ofChange s with cond := some uptoSmall }

/-- 'twoslotlaw06.LayoutNumbers', WHERE WHAT IT READS IS OF BULK AT MOST 1048576: true; the input reads as it did. -/
def layoutNumbersUptoRow : OpenClaim := { program := "ytgcodjkedifpaaa", sum := "ec84516939b6cb04fb5774e58aa4cf2f2bcf00a3ad6f6997b5e408b147d32b95", func := "twoslot/twoslotlaw06.LayoutNumbers", spec := "layoutNumbers", unfollowed := true, recurses := true, apart := false, narrowed := true }
def LayoutNumbersUptoSaid : Prop := layoutNumbersUptoRow.holds Try.pinned (OpenSpec.upto layoutNumbersSpec)

/-- 'twoslotlaw06.LayoutSpans', WHERE WHAT IT READS IS OF BULK AT MOST 1048576: true; the input reads as it did. -/
def layoutSpansUptoRow : OpenClaim := { program := "ytgcodjkedifpaaa", sum := "ec84516939b6cb04fb5774e58aa4cf2f2bcf00a3ad6f6997b5e408b147d32b95", func := "twoslot/twoslotlaw06.LayoutSpans", spec := "layoutSpans", unfollowed := true, recurses := true, apart := false, narrowed := true }
def LayoutSpansUptoSaid : Prop := layoutSpansUptoRow.holds Try.pinned (OpenSpec.upto layoutSpansSpec)

/-- 'twoslotlaw06.LayoutWhole', WHERE WHAT IT READS IS OF BULK AT MOST 1048576: true; the input reads as it did. -/
def layoutWholeUptoRow : OpenClaim := { program := "ytgcodjkedifpaaa", sum := "ec84516939b6cb04fb5774e58aa4cf2f2bcf00a3ad6f6997b5e408b147d32b95", func := "twoslot/twoslotlaw06.LayoutWhole", spec := "layoutWhole", unfollowed := true, recurses := true, apart := false, narrowed := true }
def LayoutWholeUptoSaid : Prop := layoutWholeUptoRow.holds Try.pinned (OpenSpec.upto layoutWholeSpec)

/-- 'twoslotlaw06.LayoutObject', WHERE WHAT IT READS IS OF BULK AT MOST 1048576: true; the input reads as it did. -/
def layoutObjectUptoRow : OpenClaim := { program := "ytgcodjkedifpaaa", sum := "ec84516939b6cb04fb5774e58aa4cf2f2bcf00a3ad6f6997b5e408b147d32b95", func := "twoslot/twoslotlaw06.LayoutObject", spec := "layoutObject", unfollowed := true, recurses := true, apart := false, narrowed := true }
def LayoutObjectUptoSaid : Prop := layoutObjectUptoRow.holds Try.pinned (OpenSpec.upto layoutObjectSpec)

/-- 'twoslotlaw06.LayoutGrows', WHERE WHAT IT READS IS OF BULK AT MOST 1048576: true; the input reads as it did. -/
def layoutGrowsUptoRow : OpenClaim := { program := "ytgcodjkedifpaaa", sum := "ec84516939b6cb04fb5774e58aa4cf2f2bcf00a3ad6f6997b5e408b147d32b95", func := "twoslot/twoslotlaw06.LayoutGrows", spec := "layoutGrows", unfollowed := true, recurses := true, apart := false, narrowed := true }
def LayoutGrowsUptoSaid : Prop := layoutGrowsUptoRow.holds Try.pinned (OpenSpec.upto layoutGrowsSpec)

end Rows
end Go.Proofs.Ytgcodjkedifpaaa
