import Derived.Test.YtemmhgfjfbdggaaP08DS
namespace Go.Proofs.Ytemmhgfjfbdggaa.P
open Go.RowKit Go.Proofs.YtemmhgfjfbdggaaW.PrintWords Go.Proofs.YtemmhgfjfbdggaaW.PrintLast Go.Proofs.YtemmhgfjfbdggaaW.PrintMore
attribute [local go_sem] max2_int min2_int max_two min_two max_three min_three max_four min_four
set_option linter.unusedVariables false
set_option linter.unusedSimpArgs false
theorem DiskScript.walk (a b c d : Int) (Am : Option Addr) (cm : Nat) (sl : List (List Int)) (A : Option Addr) (cl : Nat) (l : List S69) (w : World) (hC : Kd.C (Kd.slice 5 (Kd.int .u8)) w Am sl.length sl) (hcm : sl.length ≤ cm) (hL : Kd.C k69 w A l.length l) (hcl : l.length ≤ cl) (hsl : ∀ x ∈ sl, IsB x ∧ x.length ≤ 1048576) (hsn : sl.length ≤ 1048576) (hst : ∀ x ∈ l, StepW x) :
  Calls Try.prog 7 #[.agg #[.int .i64 a, .int .i64 b, .int .i64 c, .int .i64 d, .slice Am sl.length cm], .slice A l.length cl] w fun e w' => e = .returned (.bool true) ∧ Below w.heap.size w w' := by
 by_cases hb : (okP a b c d && decide ((a + b) * d > 400)) = true
 ·
  exact DS_big a b c d Am cm sl A cl l w hC hcm hL hcl hsl hsn hst (by rw [big_ev, hb])
 ·
  have hb2 : (okP a b c d && decide ((a + b) * d > 400)) = false := by simpa using hb
  have hg : twoslotlaw08_big.f a b c d = some false := by rw [big_ev, hb2]
  obtain ⟨r, hr1, hr2⟩ := long_ev l hst
  cases r with
  | true => exact DS_long a b c d Am cm sl A cl l w hC hcm hL hcl hsl hsn hst hg hr1
  | false =>
   by_cases ho : OfOK a b c d sl
   ·
    obtain ⟨h1, h2⟩ := hr2 rfl
    refine DS_good a b c d Am cm sl A cl l w hC hcm hL hcl hsl hsn hst hg hr1 ho (fun hm => hb ?_) h1 h2
    rw [ho.1, decide_eq_true hm]
    rfl
   ·
    exact DS_bad a b c d Am cm sl A cl l w hC hcm hL hcl hsl hsn hst hg hr1 ho
theorem stepW_of {x : S69} {B : Nat} (hB : B ≤ 1048576)
  (h : ∃ a0 a1 a2 a3 a4 a5, x = ⟨a0, a1, a2, a3, a4, a5⟩ ∧ (Lit.int .u8 a0).wf = true ∧ (Lit.int .i64 a1).wf = true ∧ (Lit.int .i64 a2).wf = true ∧ (Lit.int .i64 a3).wf = true ∧ (Lit.int .i64 a4).wf = true ∧ a5.length ≤ B ∧ ∀ p ∈ a5, ∃ b0 b1 b2 b3, p = (⟨b0, b1, b2, b3⟩ : S51) ∧ (Lit.int .i64 b0).wf = true ∧ (Lit.int .i64 b1).wf = true ∧ (Lit.int .i64 b2).wf = true ∧ b3.length ≤ B ∧ ∀ y ∈ b3, (Lit.int .u8 y).wf = true) : StepW x := by
 obtain ⟨a0, a1, a2, a3, a4, a5, rfl, _, _, _, _, w4, w5, h5⟩ := h
 refine ⟨?_, Nat.le_trans w5 hB, fun p hp => ?_⟩
 ·
  show a4 ≤ 9223372036854775807
  simp [Lit.wf, IntKind.min, IntKind.max, IntKind.signed, IntKind.bits] at w4
  omega
 ·
  obtain ⟨b0, b1, b2, b3, rfl, _, _, _, w3, h3⟩ := h5 p hp
  refine ⟨fun y hy => ?_, Nat.le_trans w3 hB⟩
  have h6 := h3 y hy
  simp [Lit.wf, IntKind.min, IntKind.max, IntKind.signed, IntKind.bits] at h6
  omega
theorem isB_of {B : Nat} (hB : B ≤ 1048576) {x : List Int} (h : x.length ≤ B ∧ ∀ y ∈ x, (Lit.int .u8 y).wf = true) : IsB x ∧ x.length ≤ 1048576 := by
 refine ⟨fun y hy => ?_, Nat.le_trans h.1 hB⟩
 have h6 := h.2 y hy
 simp [Lit.wf, IntKind.min, IntKind.max, IntKind.signed, IntKind.bits] at h6
 omega
end Go.Proofs.Ytemmhgfjfbdggaa.P
