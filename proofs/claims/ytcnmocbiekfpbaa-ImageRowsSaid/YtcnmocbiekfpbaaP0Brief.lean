import Derived.Test.YtcnmocbiekfpbaaPx0
import Derived.Test.YtcnmocbiekfpbaaPx4
import Derived.Test.YtcnmocbiekfpbaaWKept
import Derived.Test.YtcnmocbiekfpbaaWApart
namespace Go.Proofs.Ytcnmocbiekfpbaa.P
open Go.RowKit Go.Proofs.YtcnmocbiekfpbaaW.PrintWords Go.Proofs.YtcnmocbiekfpbaaW.PrintLast Go.Proofs.YtcnmocbiekfpbaaW.PrintMore
attribute [local go_sem] max2_int min2_int max_two min_two max_three min_three max_four min_four
set_option linter.unusedVariables false
set_option linter.unusedSimpArgs false
/-! ### Short words for hand walks -/
section
variable {α : Type} {d : Kd α} {e base g t : Nat} {ok S : Nat → Prop} {w W W1 : World} {o : Obj} {v : Value} {xs : List α} {a0 a1 a2 a3 a4 a5 a6 a7 b0 b1 b2 b3 b4 : Value}
theorem bb (h : Aside0 (W.heap[g]? = some o)) (hs : Below W.heap.size W W1) : Aside0 (W1.heap[g]? = some o) := ⟨blk_below h.out hs⟩
theorem kb (h : Aside0 (W.heap[g]? = some o)) (hk : Kept W W1 S) (hne : ¬ S g) : Aside0 (W1.heap[g]? = some o) := ⟨blk_kept h.out hk hne⟩
theorem rb (h : Aside0 (d.R e W base ok v xs)) (hs : Below W.heap.size W W1) : Aside0 (d.R e W1 base ok v xs) := ⟨Kd.R_below h.out hs⟩
theorem rk (h : Aside0 (d.R e W base ok v xs)) (hk : Kept W W1 S) (hne : ∀ k, ok k → ¬ S k) : Aside0 (d.R e W1 base ok v xs) := ⟨Kd.R_kept h.out hk hne⟩
theorem sb (h : Aside0 (Kd.S d e W base ok v xs)) (hs : Below W.heap.size W W1) : Aside0 (Kd.S d e W1 base ok v xs) := ⟨Kd.S_below h.out hs⟩
theorem sk (h : Aside0 (Kd.S d e W base ok v xs)) (hk : Kept W W1 S) (hne : ∀ k, ok k → ¬ S k) : Aside0 (Kd.S d e W1 base ok v xs) := ⟨Kd.S_kept h.out hk hne⟩
theorem hbs (h : Aside0 (Below w.heap.size w W)) (hs : Below W.heap.size W W1) : Aside0 (Below w.heap.size w W1) := ⟨below_step h.out hs⟩
theorem kput {j : Nat} {u : Value} (h : Kept w W (Iv g (g + 1))) : Kept w (W.setCell ⟨g, j, none⟩ u) (Iv g (g + 1)) := h.setCell (.inl ⟨Nat.le_refl _, Nat.lt_succ_self _⟩) _
theorem cells1 (h : W.heap[g]? = some (.cells #[a0] t (0, 0))) : (W.cell? ⟨g, 0, none⟩ = some a0 ∧ W.frozen? ⟨g, 0, none⟩ = false) := ⟨blk_cell h 0, blk_frozen h 0⟩
theorem cells2 (h : W.heap[g]? = some (.cells #[a0, a1] t (0, 0))) : (W.cell? ⟨g, 0, none⟩ = some a0 ∧ W.frozen? ⟨g, 0, none⟩ = false) ∧ (W.cell? ⟨g, 1, none⟩ = some a1 ∧ W.frozen? ⟨g, 1, none⟩ = false) := ⟨⟨blk_cell h 0, blk_frozen h 0⟩, ⟨blk_cell h 1, blk_frozen h 1⟩⟩
theorem cells4 (h : W.heap[g]? = some (.cells #[a0, a1, a2, a3] t (0, 0))) : (W.cell? ⟨g, 0, none⟩ = some a0 ∧ W.frozen? ⟨g, 0, none⟩ = false) ∧ (W.cell? ⟨g, 1, none⟩ = some a1 ∧ W.frozen? ⟨g, 1, none⟩ = false) ∧ (W.cell? ⟨g, 2, none⟩ = some a2 ∧ W.frozen? ⟨g, 2, none⟩ = false) ∧ (W.cell? ⟨g, 3, none⟩ = some a3 ∧ W.frozen? ⟨g, 3, none⟩ = false) :=
  ⟨⟨blk_cell h 0, blk_frozen h 0⟩, ⟨blk_cell h 1, blk_frozen h 1⟩, ⟨blk_cell h 2, blk_frozen h 2⟩, ⟨blk_cell h 3, blk_frozen h 3⟩⟩
theorem cells5 (h : W.heap[g]? = some (.cells #[a0, a1, a2, a3, a4] t (0, 0))) : (W.cell? ⟨g, 0, none⟩ = some a0 ∧ W.frozen? ⟨g, 0, none⟩ = false) ∧ (W.cell? ⟨g, 1, none⟩ = some a1 ∧ W.frozen? ⟨g, 1, none⟩ = false) ∧ (W.cell? ⟨g, 2, none⟩ = some a2 ∧ W.frozen? ⟨g, 2, none⟩ = false) ∧ (W.cell? ⟨g, 3, none⟩ = some a3 ∧ W.frozen? ⟨g, 3, none⟩ = false) ∧ (W.cell? ⟨g, 4, none⟩ = some a4 ∧ W.frozen? ⟨g, 4, none⟩ = false) :=
  ⟨⟨blk_cell h 0, blk_frozen h 0⟩, ⟨blk_cell h 1, blk_frozen h 1⟩, ⟨blk_cell h 2, blk_frozen h 2⟩, ⟨blk_cell h 3, blk_frozen h 3⟩, ⟨blk_cell h 4, blk_frozen h 4⟩⟩
end
end Go.Proofs.Ytcnmocbiekfpbaa.P
