import Derived.Test.YtemmhgfjfbdggaaP08F
import Derived.Test.YtemmhgfjfbdggaaP08FW
namespace Go.Proofs.Ytemmhgfjfbdggaa.P
open Go.RowKit Go.Proofs.YtemmhgfjfbdggaaW.PrintWords Go.Proofs.YtemmhgfjfbdggaaW.PrintLast Go.Proofs.YtemmhgfjfbdggaaW.PrintMore
attribute [local go_sem] max2_int min2_int max_two min_two max_three min_three max_four min_four
set_option linter.unusedVariables false
set_option linter.unusedSimpArgs false
theorem DiskKeeps.walk (a b c d : Int) (Am : Option Addr) (cm : Nat) (sl : List (List Int)) (A : Option Addr) (cl : Nat) (l : List S51) (n : Int) (w : World) (hC : Kd.C (Kd.slice 5 (Kd.int .u8)) w Am sl.length sl) (hL : Kd.C k51 w A l.length l) (hcl : l.length ≤ cl) :
    Calls Try.prog 5 #[.agg #[.int .i64 a, .int .i64 b, .int .i64 c, .int .i64 d, .slice Am sl.length cm], .slice A l.length cl, .int .i64 n] w fun e w' => e = .returned (.bool true) ∧ Below w.heap.size w w' := by
  by_cases h1 : 200 < l.length
  · exact Keeps_long a b c d Am cm sl A cl l n w hC hL hcl h1
  have hln : l.length ≤ 200 := by omega
  by_cases hbig : okP a b c d = true ∧ (a + b) * d > 400
  · exact Keeps_not a b c d Am cm sl A cl l n w hC hL hcl hln (fun w hC => two_big a b c d Am cm sl w hC hbig.1 hbig.2)
  by_cases ho : OfOK a b c d sl
  rotate_left
  · exact Keeps_not a b c d Am cm sl A cl l n w hC hL hcl hln (fun w hC => two_bad a b c d Am cm sl w hC hbig ho)
  have hm : ¬ (a + b) * d > 400 := fun h => hbig ⟨ho.1, h⟩
  have law := cut_law (nd := (List.replicate (a + b).toNat false).length) (d := d) (sz := sizeOf08 a b c) l l.length ⟨sl, false, -1, 0⟩ rfl rfl
  rw [List.take_length] at law
  generalize hR : putsL (List.replicate (a + b).toNat false).length d (sizeOf08 a b c) l ⟨sl, false, -1, 0⟩ = R at law
  obtain ⟨⟨slR, oR, cR, wR⟩, eR⟩ := R
  obtain ⟨i1, i2, _⟩ := law
  replace i1 : oR = false := i1
  replace i2 : cR = -1 := i2
  subst i1
  subst i2
  by_cases hat : atOf (List.replicate (a + b).toNat false).length d n 0 0 < 0
  · exact Keeps_not_wiped a b c d Am cm sl A cl l n w hC hL hcl hln hm ho hat slR wR eR hR
  · exact Keeps_wiped a b c d Am cm sl A cl l n w hC hL hcl hln hm ho (atOf (List.replicate (a + b).toNat false).length d n 0 0).toNat (by omega) slR wR eR hR
end Go.Proofs.Ytemmhgfjfbdggaa.P
