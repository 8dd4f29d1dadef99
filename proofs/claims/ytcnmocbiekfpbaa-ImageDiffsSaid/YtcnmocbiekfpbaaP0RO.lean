import Derived.Test.YtcnmocbiekfpbaaPx0
import Derived.Test.YtcnmocbiekfpbaaWKept
import Derived.Test.YtcnmocbiekfpbaaWFoot
namespace Go.Proofs.Ytcnmocbiekfpbaa.P
open Go.RowKit Go.Proofs.YtcnmocbiekfpbaaW.PrintWords Go.Proofs.YtcnmocbiekfpbaaW.PrintLast Go.Proofs.YtcnmocbiekfpbaaW.PrintMore
attribute [local go_sem] max2_int min2_int max_two min_two max_three min_three max_four min_four
set_option linter.unusedVariables false
set_option linter.unusedSimpArgs false
/-! ### Rows that are only read: came in, or made since -/
section
variable {α : Type} {d : Kd α} {e : Nat} {w w1 : World} {base : Nat} {ok ok' : Nat → Prop} {v : Value} {xs : List α}
/-- A row that is only read: what it leads to is below base, or of its own types. -/
def RO (d : Kd α) (e : Nat) (w : World) (base : Nat) (ok : Nat → Prop) (v : Value) (xs : List α) : Prop :=
  ∃ A c, v = .slice A xs.length c ∧ xs.length ≤ c ∧ ∃ F : Nat → Prop, (∀ k, F k → k < w.heap.size ∧ (k < base ∨ ∃ q, q ∈ e :: d.E ∧ ∃ cells, w.heap[k]? = some (.cells cells q (0, 0)))) ∧
    ∀ w' : World, (∀ k, F k → w'.heap[k]? = w.heap[k]?) → d.C w' A xs.length xs
/-- The same, beside a variable in memory. -/
def RO2 (d : Kd α) (e : Nat) (w : World) (base g : Nat) (v : Value) (xs : List α) : Prop :=
  ∃ A c, v = .slice A xs.length c ∧ xs.length ≤ c ∧ ∃ F : Nat → Prop, (∀ k, F k → k ≠ g ∧ k < w.heap.size ∧ (k < base ∨ ∃ q, q ∈ e :: d.E ∧ ∃ cells, w.heap[k]? = some (.cells cells q (0, 0)))) ∧
    ∀ w' : World, (∀ k, F k → w'.heap[k]? = w.heap[k]?) → d.C w' A xs.length xs
theorem ro_lt {w : World} {k : Nat} {o : Option Obj} (h : k < w.heap.size) (e : w1.heap[k]? = w.heap[k]?) : k < w1.heap.size := by
  rw [Array.getElem?_eq_getElem h] at e
  exact (Array.getElem?_eq_some_iff.mp e).1
theorem RO_step (h : RO d e w base ok v xs) (hm : ∀ k, k < w.heap.size → w1.heap[k]? = w.heap[k]?) : RO d e w1 base ok v xs := by
  obtain ⟨A, c, hv, hl, F, hF, hC⟩ := h
  refine ⟨A, c, hv, hl, F, fun k hk => ?_, fun w' hw => hC w' (fun k hk => (hw k hk).trans (hm k (hF k hk).1))⟩
  obtain ⟨h1, h2⟩ := hF k hk
  refine ⟨ro_lt (o := none) h1 (hm k h1), h2.imp_right ?_⟩
  rintro ⟨q, hq, cells, hc⟩
  exact ⟨q, hq, cells, (hm k h1).trans hc⟩
theorem RO_below (h : RO d e w base ok v xs) (hb : Below w.heap.size w w1) : RO d e w1 base ok v xs := RO_step h (fun k hk => hb.block k hk)
theorem RO_alloc (h : RO d e w base ok v xs) (o : Obj) : RO d e (w.alloc o) base ok v xs := RO_below h (below_alloc (Below.refl _ _) o)
theorem RO_drew (h : RO d e w base ok v xs) : RO d e w.drew base ok v xs := RO_below h (below_drew (Below.refl _ _))
theorem RO_drewN (h : RO d e w base ok v xs) (m : Nat) : RO d e (w.drewN m) base ok v xs := RO_below h (pw_below_drewN (Below.refl _ _) m)
theorem RO_types {g t : Nat} {cells : Array Value} (h : RO d e w base ok v xs) (hb : w.heap[g]? = some (.cells cells t (0, 0))) (ht : ∀ q, q ∈ e :: d.E → q ≠ t) (hg : base ≤ g) : RO2 d e w base g v xs := by
  obtain ⟨A, c, hv, hl, F, hF, hC⟩ := h
  refine ⟨A, c, hv, hl, F, fun k hk => ⟨?_, hF k hk⟩, hC⟩
  obtain ⟨h1, h2⟩ := hF k hk
  rcases h2 with h2 | ⟨q, hq, cells', hc⟩
  · omega
  · rintro rfl
    rw [hb] at hc
    have h3 := Option.some.inj hc
    injection h3 with _ h4
    exact ht q hq h4.symm
theorem RO_far {p : Addr} (h : RO2 d e w base p.block v xs) (u : Value) : RO2 d e (w.setCell p u) base p.block v xs := by
  obtain ⟨A, c, hv, hl, F, hF, hC⟩ := h
  have hm : ∀ k, F k → (w.setCell p u).heap[k]? = w.heap[k]? := fun k hk => Below.heap_setCell w p u k (hF k hk).1
  refine ⟨A, c, hv, hl, F, fun k hk => ?_, fun w' hw => hC w' (fun k hk => (hw k hk).trans (hm k hk))⟩
  obtain ⟨h0, h1, h2⟩ := hF k hk
  refine ⟨h0, ro_lt (o := none) h1 (hm k hk), h2.imp_right ?_⟩
  rintro ⟨q, hq, cells, hc⟩
  exact ⟨q, hq, cells, (hm k hk).trans hc⟩
theorem RO_mono {g : Nat} (h : RO2 d e w base g v xs) : RO d e w base (fun _ => True) v xs := by
  obtain ⟨A, c, hv, hl, F, hF, hC⟩ := h
  exact ⟨A, c, hv, hl, F, fun k hk => (hF k hk).2, hC⟩
theorem RO_slice (h : RO d e w base ok v xs) : ∃ A c, v = .slice A xs.length c := by
  obtain ⟨A, c, hv, _⟩ := h
  exact ⟨A, c, hv⟩
theorem RO_reads' {A : Option Addr} {n c : Nat} (h : RO d e w base ok (.slice A n c) xs) : n = xs.length ∧ n ≤ c ∧ d.C w A xs.length xs := by
  obtain ⟨A', c', hv, hl, F, hF, hC⟩ := h
  injection hv with h1 h2 h3
  subst h1 h2 h3
  exact ⟨rfl, hl, hC w (fun _ _ => rfl)⟩
theorem RO_lower {base0 : Nat} (h : Kd.S d e w base0 ok v xs) (hb : base ≤ base0) : RO d e w base (fun _ => True) v xs := by
  have hB := Kd.S_bound h
  obtain ⟨A, c, hv, hl, hC⟩ := Kd.S_reads h
  subst hv
  refine ⟨A, c, rfl, hl, (fun k => ok k ∧ base0 ≤ k ∧ k < w.heap.size ∧ ∃ q, q ∈ e :: d.E ∧ ∃ cells, w.heap[k]? = some (.cells cells q (0, 0))), fun k hk => ⟨hk.2.2.1, .inr hk.2.2.2⟩, fun w' hw => ?_⟩
  exact (Kd.S_reads' (Kd.S_step hB (fun k hk _ => hw k hk))).2.2
theorem RO_lowerR {base0 : Nat} (h : Kd.R d e w base0 ok v xs) (hb : base ≤ base0) : RO d e w base (fun _ => True) v xs := by
  have hB := Kd.R_bound h
  obtain ⟨A, c, hv, hl, hC⟩ := Kd.R_reads h
  subst hv
  refine ⟨A, c, rfl, hl, (fun k => ok k ∧ base0 ≤ k ∧ k < w.heap.size ∧ ∃ q, q ∈ e :: d.E ∧ ∃ cells, w.heap[k]? = some (.cells cells q (0, 0))), fun k hk => ⟨hk.2.2.1, .inr hk.2.2.2⟩, fun w' hw => ?_⟩
  exact (Kd.R_reads' (Kd.R_step hB (fun k hk _ => hw k hk))).2.2
theorem RO_came {A : Option Addr} {c : Nat} (hd : Kd.Heap d) (h : d.C w A xs.length xs) (hl : xs.length ≤ c) : RO d e w w.heap.size (fun _ => True) (.slice A xs.length c) xs := by
  refine ⟨A, c, rfl, hl, fun k => k < w.heap.size, fun k hk => ⟨hk, .inl hk⟩, fun w' hw => ?_⟩
  refine Kd.C_kept_came (S := fun _ => False) hd h (Below.refl _ _) (fun _ h => h.elim) w' ⟨?_, fun i hi _ => hw i hi⟩
  by_cases h0 : w.heap.size = 0
  · omega
  · have := ro_lt (o := none) (w := w) (k := w.heap.size - 1) (by omega) (hw _ (by omega))
    omega
end
end Go.Proofs.Ytcnmocbiekfpbaa.P
