import Derived.Test.YtgcodjkedifpaaaP06Ev
namespace Go.Proofs.Ytgcodjkedifpaaa.P
open Go.RowKit Go.Proofs.YtgcodjkedifpaaaW.PrintWords Go.Proofs.YtgcodjkedifpaaaW.PrintLast Go.Proofs.YtgcodjkedifpaaaW.PrintMore
attribute [local go_sem] max2_int min2_int max_two min_two max_three min_three max_four min_four
set_option linter.unusedVariables false
set_option linter.unusedSimpArgs false
theorem LayoutObject.ev (a b c d n : Int) : twoslotlaw06_LayoutObject.f 1 a b c d n = some true := by
  unfold twoslotlaw06_LayoutObject.f
  simp only [awake_ev, Stripes_ev, refStripes_ev 0, Depth_ev, refDepth_ev 0, Leaves_ev, refLeaves_ev 0, Rows_ev, refRows_ev 0, Option.bind_some, if_true, beq_self_eq_true]
theorem LayoutObject.walk (a b c d n : Int) (w : World) :
    Calls Try.prog 6 #[.agg #[.int .i64 a, .int .i64 b, .int .i64 c, .int .i64 d], .int .i64 n] w fun e w' => e = .returned (.bool true) ∧ Below w.heap.size w w' :=
  twoslotlaw06_LayoutObject.calls 1 a b c d n true w (LayoutObject.ev a b c d n)
end Go.Proofs.Ytgcodjkedifpaaa.P
