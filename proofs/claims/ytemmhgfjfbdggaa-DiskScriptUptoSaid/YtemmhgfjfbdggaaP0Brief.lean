import Derived.Test.YtemmhgfjfbdggaaPx0
import Derived.Test.YtemmhgfjfbdggaaPx4
import Derived.Test.YtemmhgfjfbdggaaP0Steps
import Derived.Test.YtemmhgfjfbdggaaWKept
import Derived.Test.YtemmhgfjfbdggaaWApart
namespace Go.Proofs.Ytemmhgfjfbdggaa.P
open Go.RowKit Go.Proofs.YtemmhgfjfbdggaaW.PrintWords Go.Proofs.YtemmhgfjfbdggaaW.PrintLast Go.Proofs.YtemmhgfjfbdggaaW.PrintMore
attribute [local go_sem] max2_int min2_int max_two min_two max_three min_three max_four min_four
set_option linter.unusedVariables false
set_option linter.unusedSimpArgs false
section
variable {α : Type} {d : Kd α} {e base g t : Nat} {ok S : Nat → Prop} {w W W1 : World} {o : Obj} {v : Value} {xs : List α} {a0 a1 a2 a3 a4 a5 a6 a7 b0 b1 b2 b3 b4 : Value}
theorem bb (h : Aside0 (W.heap[g]? = some o)) (hs : Below W.heap.size W W1) : Aside0 (W1.heap[g]? = some o) := ⟨blk_below h.out hs⟩
theorem kb (h : Aside0 (W.heap[g]? = some o)) (hk : Kept W W1 S) (hne : ¬ S g) : Aside0 (W1.heap[g]? = some o) := ⟨blk_kept h.out hk hne⟩
theorem hbs (h : Aside0 (Below w.heap.size w W)) (hs : Below W.heap.size W W1) : Aside0 (Below w.heap.size w W1) := ⟨below_step h.out hs⟩
theorem kput {j : Nat} {u : Value} (h : Kept w W (Iv g (g + 1))) : Kept w (W.setCell ⟨g, j, none⟩ u) (Iv g (g + 1)) := h.setCell (.inl ⟨Nat.le_refl _, Nat.lt_succ_self _⟩) _
theorem cells4 (h : W.heap[g]? = some (.cells #[a0, a1, a2, a3] t (0, 0))) : (W.cell? ⟨g, 0, none⟩ = some a0 ∧ W.frozen? ⟨g, 0, none⟩ = false) ∧ (W.cell? ⟨g, 1, none⟩ = some a1 ∧ W.frozen? ⟨g, 1, none⟩ = false) ∧ (W.cell? ⟨g, 2, none⟩ = some a2 ∧ W.frozen? ⟨g, 2, none⟩ = false) ∧ (W.cell? ⟨g, 3, none⟩ = some a3 ∧ W.frozen? ⟨g, 3, none⟩ = false) :=
  ⟨⟨blk_cell h 0, blk_frozen h 0⟩, ⟨blk_cell h 1, blk_frozen h 1⟩, ⟨blk_cell h 2, blk_frozen h 2⟩, ⟨blk_cell h 3, blk_frozen h 3⟩⟩
theorem cells5 (h : W.heap[g]? = some (.cells #[a0, a1, a2, a3, a4] t (0, 0))) : (W.cell? ⟨g, 0, none⟩ = some a0 ∧ W.frozen? ⟨g, 0, none⟩ = false) ∧ (W.cell? ⟨g, 1, none⟩ = some a1 ∧ W.frozen? ⟨g, 1, none⟩ = false) ∧ (W.cell? ⟨g, 2, none⟩ = some a2 ∧ W.frozen? ⟨g, 2, none⟩ = false) ∧ (W.cell? ⟨g, 3, none⟩ = some a3 ∧ W.frozen? ⟨g, 3, none⟩ = false) ∧ (W.cell? ⟨g, 4, none⟩ = some a4 ∧ W.frozen? ⟨g, 4, none⟩ = false) :=
  ⟨⟨blk_cell h 0, blk_frozen h 0⟩, ⟨blk_cell h 1, blk_frozen h 1⟩, ⟨blk_cell h 2, blk_frozen h 2⟩, ⟨blk_cell h 3, blk_frozen h 3⟩, ⟨blk_cell h 4, blk_frozen h 4⟩⟩
end
end Go.Proofs.Ytemmhgfjfbdggaa.P
