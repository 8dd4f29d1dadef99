import Derived.Test.YtemmhgfjfbdggaaPx0
namespace Go.Proofs.Ytemmhgfjfbdggaa.P
open Go.RowKit Go.Proofs.YtemmhgfjfbdggaaW.PrintWords Go.Proofs.YtemmhgfjfbdggaaW.PrintLast Go.Proofs.YtemmhgfjfbdggaaW.PrintMore
attribute [local go_sem] max2_int min2_int max_two min_two max_three min_three max_four min_four
set_option linter.unusedVariables false
set_option linter.unusedSimpArgs false
/-! Steps of a walk by hand: each event leads from one letter to the next; what is known goes with it. -/
def Iv (lo hi k : Nat) : Prop := lo ≤ k ∧ k < hi
theorem Iv_out {lo hi g : Nat} (h : g < lo ∨ hi ≤ g) : ¬ Iv lo hi g := fun hk => by unfold Iv at hk; omega
theorem Iv_apart {lo hi lo' hi' : Nat} (h : hi ≤ lo' ∨ hi' ≤ lo) : ∀ k, Iv lo hi k → ¬ Iv lo' hi' k := fun k h1 h2 => by unfold Iv at h1 h2; omega
theorem Iv_ne {lo hi g : Nat} (h : g < lo ∨ hi ≤ g) : ∀ k, Iv lo hi k → k ≠ g := fun k hk e => by unfold Iv at hk; omega
theorem kept_step {w W w1 : World} {S : Nat → Prop} (h : Below w.heap.size w W) (k : Kept W w1 S) : Kept w w1 S := (Kept.of_below h S).then_ k (fun _ hk => .inl hk)
theorem R_iv {α : Type} {d : Kd α} {e : Nat} {W w1 : World} {ok : Nat → Prop} {v : Value} {xs : List α} (h : Kd.R d e w1 W.heap.size ok v xs) {base lo : Nat} (hb : base ≤ W.heap.size) (hl : lo ≤ W.heap.size) : Kd.R d e w1 base (Iv lo w1.heap.size) v xs :=
  Kd.R_mono (Kd.R_lower (Kd.R_bound h) hb) (fun _ hk => ⟨Nat.le_trans hl hk.2.1, hk.2.2.1⟩)
theorem foot_iv {P : World → Prop} {W w1 : World} (h : Foot P w1 (fun k => W.heap.size ≤ k)) {lo : Nat} (hl : lo ≤ W.heap.size) : Foot P w1 (Iv lo w1.heap.size) :=
  (Foot.bound h).mono (fun _ hk => ⟨Nat.le_trans hl hk.1, hk.2⟩)
theorem foot_below {P : World → Prop} {W w1 : World} {ok : Nat → Prop} (h : Foot P W ok) (hb : Below W.heap.size W w1) : Foot P w1 ok := h.step (fun k _ hlt => hb.block k hlt)
theorem foot_kept {P : World → Prop} {W w1 : World} {ok S : Nat → Prop} (h : Foot P W ok) (hk : Kept W w1 S) (hne : ∀ k, ok k → ¬ S k) : Foot P w1 ok := h.step (fun k ho hlt => hk.2 k hlt (hne k ho))
theorem foot_far {P : World → Prop} {W : World} {ok : Nat → Prop} (h : Foot P W ok) {p : Addr} (hne : ∀ k, ok k → k ≠ p.block) (u : Value) : Foot P (W.setCell p u) ok := h.step (fun k ho _ => Below.heap_setCell W p u k (hne k ho))
theorem kept_set (W : World) (p : Addr) (u : Value) : Kept W (W.setCell p u) (fun k => k = p.block) := ⟨by simp [World.setCell], fun i _ hn => Below.heap_setCell W p u i hn⟩
theorem below_self (w : World) : Below w.heap.size w w := Below.refl _ _
theorem foot_now {P : World → Prop} {W W' : World} {ok : Nat → Prop} (h : Foot P W ok) (hb : Below W.heap.size W W') : P W' := (foot_below h hb).now
theorem below_all2 {w W : World} (h : Below w.heap.size w W) : Below w.heap.size w W := h
end Go.Proofs.Ytemmhgfjfbdggaa.P
