-- Written by a program of this session, after the kit's print.
import Derived.Test.YtcnmocbiekfpbaaPx0
import Derived.Test.YtcnmocbiekfpbaaP0Short
import Derived.Test.YtcnmocbiekfpbaaPx5
import Derived.Test.YtcnmocbiekfpbaaPx19
namespace Go.Proofs.Ytcnmocbiekfpbaa.P
open Go.RowKit Go.Proofs.YtcnmocbiekfpbaaW.PrintWords Go.Proofs.YtcnmocbiekfpbaaW.PrintLast Go.Proofs.YtcnmocbiekfpbaaW.PrintMore
attribute [local go_sem] max2_int min2_int max_two min_two max_three min_three max_four min_four   -- for this text's walks alone
set_option linter.unusedVariables false
set_option linter.unusedSimpArgs false

open Go.Maps (int_keyed keyOf_int_mk)
/-- Block B is a map of ints that reads as f. -/
def MapI (w : World) (B n : Nat) (f : Int → Int) : Prop := ∃ D : DataW Unit, w.ownsMap Try.prog 3 (plainElem Try.prog 3) B n D ∧ ∀ x : Int, D.atKey (.int .i64 x) (.lit (.int .i64 0)) = .lit (.int .i64 (f x))
theorem isKey {x : Int} (hw : (Lit.int .i64 x).wf = true) : WideAt.IsKeyLit (.int .i64 x) := (int_keyed (P := Try.prog) (k := 3) Try.underlying3).key (keyOf_int_mk Try.underlying3 hw)
theorem MapI.put {w w' : World} {B n : Nat} {f : Int → Int} {D : DataW Unit} {x v : Int} (hm : Go.Maps.IsMap D) (ha : ∀ y : Int, D.atKey (.int .i64 y) (.lit (.int .i64 0)) = .lit (.int .i64 (f y))) (hw : (Lit.int .i64 x).wf = true)
    (h : w'.ownsMap Try.prog 3 (plainElem Try.prog 3) B n (D.put (.int .i64 x) (.lit (.int .i64 v)))) : MapI w' B n (fun y => if y = x then v else f y) := by
  refine ⟨_, h, fun y => ?_⟩
  show _ = DataW.lit (.int .i64 (if y = x then v else f y))
  by_cases hy : y = x
  · subst hy
    rw [if_pos rfl, Go.Maps.atKey_put_same hm (isKey hw)]
  · rw [if_neg hy, Go.Maps.atKey_put_other (fun e => hy (by injection e)), ha]
/-- The last of the first k + 1 numbers goes down to its place. -/
def insB : List Int → Nat → List Int
  | L, 0 => L
  | L, k + 1 => if rdOf 0 L ((k + 1 : Nat) : Int) < rdOf 0 L ((k : Nat) : Int) then insB ((L.set (k + 1) (rdOf 0 L ((k : Nat) : Int))).set k (rdOf 0 L ((k + 1 : Nat) : Int))) k else L
def metStep (o : List Int) (x : Int) : List Int := if x ∈ o then o else insB (o ++ [x]) o.length
/-- The rows that raw writes meet, put in one by one. -/
def metRows (l : List S35) : List Int := l.foldl (fun o x => metStep o x.f1) []
theorem rd_nat {L : List Int} {k : Nat} (h : k < L.length) : rdOf 0 L ((k : Nat) : Int) = L[k] := by
  simp [rdOf, h]
theorem swap_mem {L : List Int} {k : Nat} (h : k + 1 < L.length) (y : Int) : y ∈ (L.set (k + 1) (rdOf 0 L ((k : Nat) : Int))).set k (rdOf 0 L ((k + 1 : Nat) : Int)) ↔ y ∈ L := by
  rw [rd_nat h, rd_nat (show k < L.length by omega)]
  have hp : ((L.set (k + 1) L[k]).set k L[k + 1]).Perm L := by
    exact List.set_set_perm h (by omega)
  exact hp.mem_iff
theorem insB_mem : ∀ (k : Nat) (L : List Int), k < L.length → ∀ y, y ∈ insB L k ↔ y ∈ L
  | 0, L, _, y => Iff.rfl
  | k + 1, L, h, y => by
    unfold insB
    split
    · rw [insB_mem k _ (by simp; omega) y, swap_mem h]
    · exact Iff.rfl
theorem metStep_mem (o : List Int) (x y : Int) : y ∈ metStep o x ↔ y ∈ o ∨ y = x := by
  unfold metStep
  by_cases h : x ∈ o
  rotate_left
  · rw [if_neg h, insB_mem _ _ (by simp)]
    simp
  rw [if_pos h]
  constructor
  · exact Or.inl
  · rintro (h | rfl)
    · exact h
    · exact h
end Go.Proofs.Ytcnmocbiekfpbaa.P
