import Derived.Test.YtemmhgfjfbdggaaPx0
namespace Go.Proofs.Ytemmhgfjfbdggaa.P
open Go.RowKit Go.Proofs.YtemmhgfjfbdggaaW.PrintWords Go.Proofs.YtemmhgfjfbdggaaW.PrintLast Go.Proofs.YtemmhgfjfbdggaaW.PrintMore
attribute [local go_sem] max2_int min2_int max_two min_two max_three min_three max_four min_four
set_option linter.unusedVariables false
set_option linter.unusedSimpArgs false
def Iv (lo hi k : Nat) : Prop := lo ≤ k ∧ k < hi
theorem Iv_out {lo hi g : Nat} (h : g < lo ∨ hi ≤ g) : ¬ Iv lo hi g := fun hk => by unfold Iv at hk; omega
theorem Iv_apart {lo hi lo' hi' : Nat} (h : hi ≤ lo' ∨ hi' ≤ lo) : ∀ k, Iv lo hi k → ¬ Iv lo' hi' k := fun k h1 h2 => by unfold Iv at h1 h2; omega
theorem Iv_ne {lo hi g : Nat} (h : g < lo ∨ hi ≤ g) : ∀ k, Iv lo hi k → k ≠ g := fun k hk e => by unfold Iv at hk; omega
theorem R_iv {α : Type} {d : Kd α} {e : Nat} {W w1 : World} {ok : Nat → Prop} {v : Value} {xs : List α} (h : Kd.R d e w1 W.heap.size ok v xs) {base lo : Nat} (hb : base ≤ W.heap.size) (hl : lo ≤ W.heap.size) : Kd.R d e w1 base (Iv lo w1.heap.size) v xs :=
  Kd.R_mono (Kd.R_lower (Kd.R_bound h) hb) (fun _ hk => ⟨Nat.le_trans hl hk.2.1, hk.2.2.1⟩)
theorem kept_set (W : World) (p : Addr) (u : Value) : Kept W (W.setCell p u) (fun k => k = p.block) := ⟨by simp [World.setCell], fun i _ hn => Below.heap_setCell W p u i hn⟩
end Go.Proofs.Ytemmhgfjfbdggaa.P
