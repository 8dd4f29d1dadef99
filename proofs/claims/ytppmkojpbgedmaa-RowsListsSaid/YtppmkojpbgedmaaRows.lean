/-
  No cell of these rows narrows 'for every input' (looked for: loops, veiled, ifaces, maps, wideKeys, modest, calm, conditions, laid).
  DERIVED. THE GIVEN ROWS OF THIS SEAT. 4 by the template 'for every input the law returns true; each argument reads behind the call as it read before'; 0 by the template 'total and deterministic' (their statements: YtppmkojpbgedmaaTotals.lean).
  GIVEN WITH THE SEED: the statements are not yours to turn. If you find one false, say at which input.
  Laid BY PROGRAM, IN A SANDBOX (cutbox-rows.mjs): the forced cells as the released guide's own fill.sh prints them over the translation eb6c097276a988d8… (all of the seat's roots in one cut). By AI agents, Wed Nov 11 2026. No macro, syntax, notation, axiom, sorry.
-/
import Derived.Test.YtppmkojpbgedmaaChecked
import GoSem.Claim
import GoSem.ClaimJoined
import GoSem.ClaimMapViews
import Derived.JoinedTies
import Derived.KernelRfl
namespace Go.Proofs.Ytppmkojpbgedmaa
/- THE CELL 'sum', in the pinned program and in every row, IS THE sha256 OF THE DUMP (.gsa) THAT YtppmkojpbgedmaaProg.lean LOADS. Nothing in Lean hashes anything: it is a label: what it is worth is what the hold of that sum in a sandbox is worth. -/
noncomputable def Try.pinned : Pinned := { name := "ytppmkojpbgedmaa", sum := "eb6c097276a988d8b2aac8f3405c7cb5956616375dc1cffe8b5dda1de06584c6", checked := Try.checked }
namespace Rows
def none {H : Type} : Left H := { results := [], args := [] }

/-- 'twoslotlaw20.RowsNames': WHATEVER THE INPUT: true; the input reads as it did. -/
def rowsNamesSpec : ChangeSpec := { name := "rowsNames", fn := fun _ => fun
  | [] => { results := [.lit (.bool true)], args := [] }
  | _ => none }
def rowsNamesRow : OpenClaim := { program := "ytppmkojpbgedmaa", sum := "eb6c097276a988d8b2aac8f3405c7cb5956616375dc1cffe8b5dda1de06584c6", func := "twoslot/twoslotlaw20.RowsNames", spec := "rowsNames", recurses := true, apart := false }
def RowsNamesSaid : Prop := rowsNamesRow.holds Try.pinned (OpenSpec.ofChange rowsNamesSpec)

/-- ITS FALSE NEIGHBOUR: 'it returns false'. Refute it at one input. -/
def rowsNamesWrong : ChangeSpec := { name := "rowsNames", fn := fun _ => fun
  | [] => { results := [.lit (.bool false)], args := [] }
  | _ => none }
def RowsNamesWrongFalsely : Prop := rowsNamesRow.holds Try.pinned (OpenSpec.ofChange rowsNamesWrong)

/-- 'twoslotlaw20.RowsLists': WHATEVER THE INPUT: true; the input reads as it did. -/
def rowsListsSpec : ChangeSpec := { name := "rowsLists", fn := fun _ => fun
  | [d1, d2, d3, d4] => { results := [.lit (.bool true)], args := [d1, d2, d3, d4] }
  | _ => none }
def rowsListsRow : OpenClaim := { program := "ytppmkojpbgedmaa", sum := "eb6c097276a988d8b2aac8f3405c7cb5956616375dc1cffe8b5dda1de06584c6", func := "twoslot/twoslotlaw20.RowsLists", spec := "rowsLists", recurses := true, apart := false }
def RowsListsSaid : Prop := rowsListsRow.holds Try.pinned (OpenSpec.ofChange rowsListsSpec)

/-- ITS FALSE NEIGHBOUR: 'it returns false'. Refute it at one input. -/
def rowsListsWrong : ChangeSpec := { name := "rowsLists", fn := fun _ => fun
  | [d1, d2, d3, d4] => { results := [.lit (.bool false)], args := [d1, d2, d3, d4] }
  | _ => none }
def RowsListsWrongFalsely : Prop := rowsListsRow.holds Try.pinned (OpenSpec.ofChange rowsListsWrong)

/-- 'twoslotlaw20.RowsBack': WHATEVER THE INPUT: true; the input reads as it did. -/
def rowsBackSpec : ChangeSpec := { name := "rowsBack", fn := fun _ => fun
  | [d1, d2, d3, d4] => { results := [.lit (.bool true)], args := [d1, d2, d3, d4] }
  | _ => none }
def rowsBackRow : OpenClaim := { program := "ytppmkojpbgedmaa", sum := "eb6c097276a988d8b2aac8f3405c7cb5956616375dc1cffe8b5dda1de06584c6", func := "twoslot/twoslotlaw20.RowsBack", spec := "rowsBack", recurses := true, apart := false }
def RowsBackSaid : Prop := rowsBackRow.holds Try.pinned (OpenSpec.ofChange rowsBackSpec)

/-- ITS FALSE NEIGHBOUR: 'it returns false'. Refute it at one input. -/
def rowsBackWrong : ChangeSpec := { name := "rowsBack", fn := fun _ => fun
  | [d1, d2, d3, d4] => { results := [.lit (.bool false)], args := [d1, d2, d3, d4] }
  | _ => none }
def RowsBackWrongFalsely : Prop := rowsBackRow.holds Try.pinned (OpenSpec.ofChange rowsBackWrong)

/-- 'twoslotlaw20.RowsFree': WHATEVER THE INPUT: true; the input reads as it did. -/
def rowsFreeSpec : ChangeSpec := { name := "rowsFree", fn := fun _ => fun
  | [d1, d2] => { results := [.lit (.bool true)], args := [d1, d2] }
  | _ => none }
def rowsFreeRow : OpenClaim := { program := "ytppmkojpbgedmaa", sum := "eb6c097276a988d8b2aac8f3405c7cb5956616375dc1cffe8b5dda1de06584c6", func := "twoslot/twoslotlaw20.RowsFree", spec := "rowsFree", recurses := true, apart := false }
def RowsFreeSaid : Prop := rowsFreeRow.holds Try.pinned (OpenSpec.ofChange rowsFreeSpec)

/-- ITS FALSE NEIGHBOUR: 'it returns false'. Refute it at one input. -/
def rowsFreeWrong : ChangeSpec := { name := "rowsFree", fn := fun _ => fun
  | [d1, d2] => { results := [.lit (.bool false)], args := [d1, d2] }
  | _ => none }
def RowsFreeWrongFalsely : Prop := rowsFreeRow.holds Try.pinned (OpenSpec.ofChange rowsFreeWrong)

/- THE SECOND FORM. 'bulk': how many values and letters a reading holds, each counted each time it is reached (what is shared counts as often as it is met; a slice's spare places count too). A statement '..UptoSaid' is the law's where the arguments, and the package variables that the reading takes, are together of bulk at most 1048576: NARROWER than '..Said'. Prove '..Said' where nothing that the law and all that it calls make is longer than what came in: it says more and counts as full. Else prove '..UptoSaid'. A law counts once. -/
mutual
def uptoBulk {H : Type} : DataW H → Nat
  | .lit (.string bytes) => bytes.length + 1
  | .lit _ => 1
  | .nil => 1
  | .ptr d => uptoBulk d + 1
  | .slice elems spare => uptoBulkAll elems + uptoBulkAll spare + 1
  | .agg parts => uptoBulkAll parts + 1
  | .iface _ d => uptoBulk d + 1
  | .map entries => uptoBulkEntries entries + 1
  | .held _ => 1
def uptoBulkAll {H : Type} : List (DataW H) → Nat
  | [] => 0
  | d :: r => uptoBulk d + uptoBulkAll r
def uptoBulkEntries {H : Type} : List (Lit × DataW H) → Nat
  | [] => 0
  | x :: r => uptoBulkEntry x + uptoBulkEntries r
def uptoBulkEntry {H : Type} : Lit × DataW H → Nat
  | (.string bytes, d) => bytes.length + uptoBulk d + 1
  | (_, d) => uptoBulk d + 1
 end
def uptoSmall : (H : Type) → List (DataW H) → Bool := fun _ ds => decide (uptoBulkAll ds ≤ 1048576)
def OpenSpec.upto (s : _root_.Go.ChangeSpec) : _root_.Go.OpenSpec := { _root_.Go.OpenSpec.ofChange s with cond := some uptoSmall }

/-- 'twoslotlaw20.RowsNames', WHERE WHAT IT READS IS OF BULK AT MOST 1048576: true; the input reads as it did. -/
def rowsNamesUptoRow : OpenClaim := { program := "ytppmkojpbgedmaa", sum := "eb6c097276a988d8b2aac8f3405c7cb5956616375dc1cffe8b5dda1de06584c6", func := "twoslot/twoslotlaw20.RowsNames", spec := "rowsNames", recurses := true, apart := false, narrowed := true }
def RowsNamesUptoSaid : Prop := rowsNamesUptoRow.holds Try.pinned (OpenSpec.upto rowsNamesSpec)

/-- 'twoslotlaw20.RowsLists', WHERE WHAT IT READS IS OF BULK AT MOST 1048576: true; the input reads as it did. -/
def rowsListsUptoRow : OpenClaim := { program := "ytppmkojpbgedmaa", sum := "eb6c097276a988d8b2aac8f3405c7cb5956616375dc1cffe8b5dda1de06584c6", func := "twoslot/twoslotlaw20.RowsLists", spec := "rowsLists", recurses := true, apart := false, narrowed := true }
def RowsListsUptoSaid : Prop := rowsListsUptoRow.holds Try.pinned (OpenSpec.upto rowsListsSpec)

/-- 'twoslotlaw20.RowsBack', WHERE WHAT IT READS IS OF BULK AT MOST 1048576: true; the input reads as it did. -/
def rowsBackUptoRow : OpenClaim := { program := "ytppmkojpbgedmaa", sum := "eb6c097276a988d8b2aac8f3405c7cb5956616375dc1cffe8b5dda1de06584c6", func := "twoslot/twoslotlaw20.RowsBack", spec := "rowsBack", recurses := true, apart := false, narrowed := true }
def RowsBackUptoSaid : Prop := rowsBackUptoRow.holds Try.pinned (OpenSpec.upto rowsBackSpec)

/-- 'twoslotlaw20.RowsFree', WHERE WHAT IT READS IS OF BULK AT MOST 1048576: true; the input reads as it did. -/
def rowsFreeUptoRow : OpenClaim := { program := "ytppmkojpbgedmaa", sum := "eb6c097276a988d8b2aac8f3405c7cb5956616375dc1cffe8b5dda1de06584c6", func := "twoslot/twoslotlaw20.RowsFree", spec := "rowsFree", recurses := true, apart := false, narrowed := true }
def RowsFreeUptoSaid : Prop := rowsFreeUptoRow.holds Try.pinned (OpenSpec.upto rowsFreeSpec)

end Rows
end Go.Proofs.Ytppmkojpbgedmaa
