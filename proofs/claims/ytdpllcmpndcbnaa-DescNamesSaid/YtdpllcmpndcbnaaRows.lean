/-
  No cell of these rows narrows 'for every input' (looked for: loops, veiled, ifaces, maps, wideKeys, modest, calm, conditions, laid).
  DERIVED. THE GIVEN ROWS OF THIS SEAT. 6 by the template 'for every input the law returns true; each argument reads behind the call as it read before'; 0 by the template 'total and deterministic' (their statements: YtdpllcmpndcbnaaTotals.lean).
  GIVEN WITH THE SEED: the statements are not yours to turn. If you find one false, say at which input.
  Laid BY PROGRAM, IN A SANDBOX (cutbox-rows.mjs): the forced cells as the released guide's own fill.sh prints them over the translation 4e747774c45cd716… (all of the seat's roots in one cut). By AI agents, Wed Nov 11 2026. No macro, syntax, notation, axiom, sorry.
-/
import Derived.Test.YtdpllcmpndcbnaaChecked
import GoSem.Claim
import GoSem.ClaimJoined
import GoSem.ClaimMapViews
import Derived.JoinedTies
import Derived.KernelRfl
namespace Go.Proofs.Ytdpllcmpndcbnaa
/- THE CELL 'sum', in the pinned program and in every row, IS THE sha256 OF THE DUMP (.gsa) THAT YtdpllcmpndcbnaaProg.lean LOADS. Nothing in Lean hashes anything: it is a label: what it is worth is what the hold of that sum in a sandbox is worth. -/
noncomputable def Try.pinned : Pinned := { name := "ytdpllcmpndcbnaa", sum := "4e747774c45cd71686753118ce31ae433885c3d347111e0a140aecd44a92d4c9", checked := Try.checked }
namespace Rows
def none {H : Type} : Left H := { results := [], args := [] }

/-- 'twoslotlaw15.DescNames': WHATEVER THE INPUT: true; the input reads as it did. -/
def descNamesSpec : ChangeSpec := { name := "descNames", fn := fun _ => fun
  | [] => { results := [.lit (.bool true)], args := [] }
  | _ => none }
def descNamesRow : OpenClaim := { program := "ytdpllcmpndcbnaa", sum := "4e747774c45cd71686753118ce31ae433885c3d347111e0a140aecd44a92d4c9", func := "twoslot/twoslotlaw15.DescNames", spec := "descNames", unfollowed := true, recurses := true, apart := false }
def DescNamesSaid : Prop := descNamesRow.holds Try.pinned (OpenSpec.ofChange descNamesSpec)

/-- ITS FALSE NEIGHBOUR: 'it returns false'. Refute it at one input. -/
def descNamesWrong : ChangeSpec := { name := "descNames", fn := fun _ => fun
  | [] => { results := [.lit (.bool false)], args := [] }
  | _ => none }
def DescNamesWrongFalsely : Prop := descNamesRow.holds Try.pinned (OpenSpec.ofChange descNamesWrong)

/-- 'twoslotlaw15.DescBytes': WHATEVER THE INPUT: true; the input reads as it did. -/
def descBytesSpec : ChangeSpec := { name := "descBytes", fn := fun _ => fun
  | [d1, d2, d3] => { results := [.lit (.bool true)], args := [d1, d2, d3] }
  | _ => none }
def descBytesRow : OpenClaim := { program := "ytdpllcmpndcbnaa", sum := "4e747774c45cd71686753118ce31ae433885c3d347111e0a140aecd44a92d4c9", func := "twoslot/twoslotlaw15.DescBytes", spec := "descBytes", unfollowed := true, recurses := true, apart := false }
def DescBytesSaid : Prop := descBytesRow.holds Try.pinned (OpenSpec.ofChange descBytesSpec)

/-- ITS FALSE NEIGHBOUR: 'it returns false'. Refute it at one input. -/
def descBytesWrong : ChangeSpec := { name := "descBytes", fn := fun _ => fun
  | [d1, d2, d3] => { results := [.lit (.bool false)], args := [d1, d2, d3] }
  | _ => none }
def DescBytesWrongFalsely : Prop := descBytesRow.holds Try.pinned (OpenSpec.ofChange descBytesWrong)

/-- 'twoslotlaw15.DescReads': WHATEVER THE INPUT: true; the input reads as it did. -/
def descReadsSpec : ChangeSpec := { name := "descReads", fn := fun _ => fun
  | [d1, d2, d3] => { results := [.lit (.bool true)], args := [d1, d2, d3] }
  | _ => none }
def descReadsRow : OpenClaim := { program := "ytdpllcmpndcbnaa", sum := "4e747774c45cd71686753118ce31ae433885c3d347111e0a140aecd44a92d4c9", func := "twoslot/twoslotlaw15.DescReads", spec := "descReads", unfollowed := true, recurses := true, apart := false }
def DescReadsSaid : Prop := descReadsRow.holds Try.pinned (OpenSpec.ofChange descReadsSpec)

/-- ITS FALSE NEIGHBOUR: 'it returns false'. Refute it at one input. -/
def descReadsWrong : ChangeSpec := { name := "descReads", fn := fun _ => fun
  | [d1, d2, d3] => { results := [.lit (.bool false)], args := [d1, d2, d3] }
  | _ => none }
def DescReadsWrongFalsely : Prop := descReadsRow.holds Try.pinned (OpenSpec.ofChange descReadsWrong)

/-- 'twoslotlaw15.DescBack': WHATEVER THE INPUT: true; the input reads as it did. -/
def descBackSpec : ChangeSpec := { name := "descBack", fn := fun _ => fun
  | [d1, d2, d3] => { results := [.lit (.bool true)], args := [d1, d2, d3] }
  | _ => none }
def descBackRow : OpenClaim := { program := "ytdpllcmpndcbnaa", sum := "4e747774c45cd71686753118ce31ae433885c3d347111e0a140aecd44a92d4c9", func := "twoslot/twoslotlaw15.DescBack", spec := "descBack", unfollowed := true, recurses := true, apart := false }
def DescBackSaid : Prop := descBackRow.holds Try.pinned (OpenSpec.ofChange descBackSpec)

/-- ITS FALSE NEIGHBOUR: 'it returns false'. Refute it at one input. -/
def descBackWrong : ChangeSpec := { name := "descBack", fn := fun _ => fun
  | [d1, d2, d3] => { results := [.lit (.bool false)], args := [d1, d2, d3] }
  | _ => none }
def DescBackWrongFalsely : Prop := descBackRow.holds Try.pinned (OpenSpec.ofChange descBackWrong)

/-- 'twoslotlaw15.DescLeaves': WHATEVER THE INPUT: true; the input reads as it did. -/
def descLeavesSpec : ChangeSpec := { name := "descLeaves", fn := fun _ => fun
  | [d1, d2, d3, d4] => { results := [.lit (.bool true)], args := [d1, d2, d3, d4] }
  | _ => none }
def descLeavesRow : OpenClaim := { program := "ytdpllcmpndcbnaa", sum := "4e747774c45cd71686753118ce31ae433885c3d347111e0a140aecd44a92d4c9", func := "twoslot/twoslotlaw15.DescLeaves", spec := "descLeaves", unfollowed := true, recurses := true, apart := false }
def DescLeavesSaid : Prop := descLeavesRow.holds Try.pinned (OpenSpec.ofChange descLeavesSpec)

/-- ITS FALSE NEIGHBOUR: 'it returns false'. Refute it at one input. -/
def descLeavesWrong : ChangeSpec := { name := "descLeaves", fn := fun _ => fun
  | [d1, d2, d3, d4] => { results := [.lit (.bool false)], args := [d1, d2, d3, d4] }
  | _ => none }
def DescLeavesWrongFalsely : Prop := descLeavesRow.holds Try.pinned (OpenSpec.ofChange descLeavesWrong)

/-- 'twoslotlaw15.DescFits': WHATEVER THE INPUT: true; the input reads as it did. -/
def descFitsSpec : ChangeSpec := { name := "descFits", fn := fun _ => fun
  | [d1, d2] => { results := [.lit (.bool true)], args := [d1, d2] }
  | _ => none }
def descFitsRow : OpenClaim := { program := "ytdpllcmpndcbnaa", sum := "4e747774c45cd71686753118ce31ae433885c3d347111e0a140aecd44a92d4c9", func := "twoslot/twoslotlaw15.DescFits", spec := "descFits", unfollowed := true, recurses := true, apart := false }
def DescFitsSaid : Prop := descFitsRow.holds Try.pinned (OpenSpec.ofChange descFitsSpec)

/-- ITS FALSE NEIGHBOUR: 'it returns false'. Refute it at one input. -/
def descFitsWrong : ChangeSpec := { name := "descFits", fn := fun _ => fun
  | [d1, d2] => { results := [.lit (.bool false)], args := [d1, d2] }
  | _ => none }
def DescFitsWrongFalsely : Prop := descFitsRow.holds Try.pinned (OpenSpec.ofChange descFitsWrong)

/- THE SECOND FORM. 'bulk': how many values and letters a reading holds, each counted each time it is reached (what is shared counts as often as it is met; a slice's spare places count too). A statement '..UptoSaid' is the law's where the arguments, and the package variables that the reading takes, are together of bulk at most 1048576: NARROWER than '..Said'. Prove '..Said' where nothing that the law and all that it calls make is longer than what came in: it says more and counts as full. Else prove '..UptoSaid'. A law counts once. -/
mutual
def uptoBulk {H : Type} : DataW H → Nat
  | .lit (.string bytes) => bytes.length + 1
  | .lit _ => 1
  | .nil => 1
  | .ptr d => uptoBulk d + 1
  | .slice elems spare => uptoBulkAll elems + uptoBulkAll spare + 1
  | .agg parts => uptoBulkAll parts + 1
  | .iface _ d => uptoBulk d + 1
  | .map entries => uptoBulkEntries entries + 1
  | .held _ => 1
def uptoBulkAll {H : Type} : List (DataW H) → Nat
  | [] => 0
  | d :: r => uptoBulk d + uptoBulkAll r
def uptoBulkEntries {H : Type} : List (Lit × DataW H) → Nat
  | [] => 0
  | x :: r => uptoBulkEntry x + uptoBulkEntries r
def uptoBulkEntry {H : Type} : Lit × DataW H → Nat
  | (.string bytes, d) => bytes.length + uptoBulk d + 1
  | (_, d) => uptoBulk d + 1
 end
def uptoSmall : (H : Type) → List (DataW H) → Bool := fun _ ds => decide (uptoBulkAll ds ≤ 1048576)
def OpenSpec.upto (s : _root_.Go.ChangeSpec) : _root_.Go.OpenSpec := { _root_.Go.OpenSpec.ofChange s with cond := some uptoSmall }

/-- 'twoslotlaw15.DescNames', WHERE WHAT IT READS IS OF BULK AT MOST 1048576: true; the input reads as it did. -/
def descNamesUptoRow : OpenClaim := { program := "ytdpllcmpndcbnaa", sum := "4e747774c45cd71686753118ce31ae433885c3d347111e0a140aecd44a92d4c9", func := "twoslot/twoslotlaw15.DescNames", spec := "descNames", unfollowed := true, recurses := true, apart := false, narrowed := true }
def DescNamesUptoSaid : Prop := descNamesUptoRow.holds Try.pinned (OpenSpec.upto descNamesSpec)

/-- 'twoslotlaw15.DescBytes', WHERE WHAT IT READS IS OF BULK AT MOST 1048576: true; the input reads as it did. -/
def descBytesUptoRow : OpenClaim := { program := "ytdpllcmpndcbnaa", sum := "4e747774c45cd71686753118ce31ae433885c3d347111e0a140aecd44a92d4c9", func := "twoslot/twoslotlaw15.DescBytes", spec := "descBytes", unfollowed := true, recurses := true, apart := false, narrowed := true }
def DescBytesUptoSaid : Prop := descBytesUptoRow.holds Try.pinned (OpenSpec.upto descBytesSpec)

/-- 'twoslotlaw15.DescReads', WHERE WHAT IT READS IS OF BULK AT MOST 1048576: true; the input reads as it did. -/
def descReadsUptoRow : OpenClaim := { program := "ytdpllcmpndcbnaa", sum := "4e747774c45cd71686753118ce31ae433885c3d347111e0a140aecd44a92d4c9", func := "twoslot/twoslotlaw15.DescReads", spec := "descReads", unfollowed := true, recurses := true, apart := false, narrowed := true }
def DescReadsUptoSaid : Prop := descReadsUptoRow.holds Try.pinned (OpenSpec.upto descReadsSpec)

/-- 'twoslotlaw15.DescBack', WHERE WHAT IT READS IS OF BULK AT MOST 1048576: true; the input reads as it did. -/
def descBackUptoRow : OpenClaim := { program := "ytdpllcmpndcbnaa", sum := "4e747774c45cd71686753118ce31ae433885c3d347111e0a140aecd44a92d4c9", func := "twoslot/twoslotlaw15.DescBack", spec := "descBack", unfollowed := true, recurses := true, apart := false, narrowed := true }
def DescBackUptoSaid : Prop := descBackUptoRow.holds Try.pinned (OpenSpec.upto descBackSpec)

/-- 'twoslotlaw15.DescLeaves', WHERE WHAT IT READS IS OF BULK AT MOST 1048576: true; the input reads as it did. -/
def descLeavesUptoRow : OpenClaim := { program := "ytdpllcmpndcbnaa", sum := "4e747774c45cd71686753118ce31ae433885c3d347111e0a140aecd44a92d4c9", func := "twoslot/twoslotlaw15.DescLeaves", spec := "descLeaves", unfollowed := true, recurses := true, apart := false, narrowed := true }
def DescLeavesUptoSaid : Prop := descLeavesUptoRow.holds Try.pinned (OpenSpec.upto descLeavesSpec)

/-- 'twoslotlaw15.DescFits', WHERE WHAT IT READS IS OF BULK AT MOST 1048576: true; the input reads as it did. -/
def descFitsUptoRow : OpenClaim := { program := "ytdpllcmpndcbnaa", sum := "4e747774c45cd71686753118ce31ae433885c3d347111e0a140aecd44a92d4c9", func := "twoslot/twoslotlaw15.DescFits", spec := "descFits", unfollowed := true, recurses := true, apart := false, narrowed := true }
def DescFitsUptoSaid : Prop := descFitsUptoRow.holds Try.pinned (OpenSpec.upto descFitsSpec)

end Rows
end Go.Proofs.Ytdpllcmpndcbnaa
