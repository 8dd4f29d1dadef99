/- Drives answer and hold, step by step, what the document says: the call returns true for every image and steps whose bulk is at most 1048576. No other condition. -/
import Derived.Test.YtemmhgfjfbdggaaRows
import Derived.Test.YtemmhgfjfbdggaaP08SC
import Derived.Test.YtemmhgfjfbdggaaM8i
import Derived.WalkKit
import Derived.ProofKit
import Derived.OpenShut
import Derived.ShutString
import Derived.ChangeOld
import Derived.Below
import Derived.SizedLaws
import Derived.Lib.SmallJoins
import Derived.JoinedCond
import Derived.Test.YtemmhgfjfbdggaaWSized
namespace Go.Proofs.Ytemmhgfjfbdggaa.diskScript
open Go.Proofs.YtemmhgfjfbdggaaW.PrintWords
open Go.ChangeShapes Go.WideShapes Go.ChangeAt Go.RowKit Go.Joins
open Go.ChangeMaps (open_string shut_string)
open Go.Deep Go.Proofs.Ytemmhgfjfbdggaa.P
set_option linter.unusedVariables false
theorem own : ownKnob Try.prog.godebug = none := by kernel_rfl
theorem laidOut : laidOutB Try.prog = true := by kernel_rfl
set_option maxRecDepth 100000 in
set_option maxHeartbeats 1000000 in
theorem lifted (os : Os) (started : os.Started) (H : Type) (enc : TypeId × Value → H) (F : Stop.Interp) :
    ReturnsInHanded {} Try.checked os 7 .any ((Rows.OpenSpec.upto Rows.diskScriptSpec).pre6 enc Try.prog Try.f7 Rows.diskScriptUptoRow.domain false) (((Rows.OpenSpec.upto Rows.diskScriptSpec).at F).post enc Try.prog Try.f7 false true false false) := by
  refine returnsInHanded_of_cond (C := Try.checked) (s := Rows.OpenSpec.upto Rows.diskScriptSpec) (k := Rows.uptoSmall) rfl own started (by kernel_rfl) Try.func7
    (OpenSpec.witness (enc := enc) (C := Try.checked) (s := Rows.OpenSpec.upto Rows.diskScriptSpec) (k := Rows.uptoSmall) rfl false ⟨#[], #[.agg #[.int .i64 0, .int .i64 0, .int .i64 0, .int .i64 0, .slice none 0 0], .slice none 0 0], []⟩ 8 (by kernel_rfl) (by kernel_rfl) (by kernel_rfl)
      (x := ([.agg [.agg [.lit (.int .i64 0), .lit (.int .i64 0), .lit (.int .i64 0), .lit (.int .i64 0)], .nil], .nil], [], [])) (by kernel_rfl) rfl (by kernel_rfl)) ?_
  intro W base args ds gs before hval0 hW _ hk0 _
  have hk : Rows.uptoBulkAll (ds ++ gs) ≤ 1048576 := of_decide_eq_true hk0
  have hval : ∀ (j : Nat) t v, Try.f7.params[j]? = some t → args[j]? = some v → Value.okWide Try.prog W .any base t v := hval0
  have hW' := hW
  obtain ⟨p, q, hA0, hV, rfl, hfz, hnd⟩ := hW
  have hA : DataW.TrodAll enc Try.prog W 0 (fun _ => true) true Try.f7.params.toList args.toList ds p := hA0
  rw [Try.params7] at hA hval
  obtain ⟨v0, vs0, d0, ds0, p0, q0, hargs, rfl, rfl, h0, r0⟩ := trodAll_cons hA
  obtain ⟨v1, vs1, d1, ds1, p1, q1, rfl, rfl, rfl, h1, r1⟩ := trodAll_cons r0
  obtain ⟨rfl, rfl, rfl⟩ := trodAll_nil r1
  obtain rfl : args = #[v0, v1] := by cases args; simp_all
  obtain ⟨rfl, rfl⟩ := trodVars_none hV
  simp only [List.cons_append, List.nil_append, Rows.uptoBulkAll] at hk
  have k0 := h0
  have lt0 : ∀ x ∈ p0, x.block < W.heap.size := by obtain ⟨m, hm⟩ := k0; exact DataW.trod_lt m _ _ _ hm
  obtain ⟨cs_m, rfl, hz_m⟩ := okWide_struct Try.underlying36 (hval 0 36 v0 rfl rfl)
  obtain ⟨fu_m, hf_m⟩ := h0
  obtain ⟨_, ⟨_, ms, rfl, ⟨ma, mb, mc, md, rfl, _⟩, hL_m, hQ_m⟩, hK_m⟩ := (openu_st2 (B := 1048576) (d0 := Kd.iso (Kd.pair (Kd.int .i64) (Kd.pair (Kd.int .i64) (Kd.pair (Kd.int .i64) (Kd.int .i64)))) (id : Int × Int × Int × Int → Int × Int × Int × Int)) (d1 := Kd.slice 45 (Kd.slice 5 (Kd.int .u8))) (β := (Int × Int × Int × Int) × List (List Int)) Try.underlying36 id (fun a b => (a, b)) (fun _ _ => rfl) rfl (by kernel_rfl) rfl (by kernel_rfl) (by kernel_rfl) (openu_of (opens_st4 (d0 := Kd.int .i64) (d1 := Kd.int .i64) (d2 := Kd.int .i64) (d3 := Kd.int .i64) (β := Int × Int × Int × Int) Try.underlying23 id (fun a b c d => (a, b, c, d)) (fun _ _ _ _ => rfl) rfl (by kernel_rfl) rfl (by kernel_rfl) rfl (by kernel_rfl) rfl (by kernel_rfl) (by kernel_rfl) (opens_int Try.underlying3) (opens_int Try.underlying3) (opens_int Try.underlying3) (opens_int Try.underlying3))) (openu_slice Try.underlying34 (by kernel_rfl) (openu_slice (d := Kd.int .u8) Try.underlying45 (by kernel_rfl) (openu_of (opens_int Try.underlying5))))) fu_m _ _ hf_m (show Rows.uptoBulk d0 ≤ 1048576 by omega)
  obtain ⟨_, _, he_m, ⟨_, _, rfl, rfl, _, _, rfl, rfl, _, _, rfl, rfl, rfl⟩, A_m, cap_m, rfl, hle_m, hC_m⟩ := hK_m
  obtain rfl : cs_m = #[.int .i64 ma, .int .i64 mb, .int .i64 mc, .int .i64 md, .slice A_m ms.length cap_m] := Array.ext' he_m
  have k1 := h1
  have lt1 : ∀ x ∈ p1, x.block < W.heap.size := by obtain ⟨m, hm⟩ := k1; exact DataW.trod_lt m _ _ _ hm
  obtain ⟨A_l, len_l, cap_l, rfl⟩ := okWide_slice Try.underlying62 (hval 1 62 v1 rfl rfl)
  obtain ⟨fu_l, hf_l⟩ := h1
  obtain ⟨l, ⟨hL_l, hQ_l⟩, A'_l, c'_l, hcs_l, hle_l, hC_l⟩ := (openu_slice (B := 1048576) (d := P.k69) Try.underlying62 (by kernel_rfl) (openu_st6 (d0 := Kd.int .u8) (d1 := Kd.int .i64) (d2 := Kd.int .i64) (d3 := Kd.int .i64) (d4 := Kd.int .i64) (d5 := Kd.slice 51 P.k51) Try.underlying69 (fun x : P.S69 => (x.f0, x.f1, x.f2, x.f3, x.f4, x.f5)) (fun a b c d e f => ⟨a, b, c, d, e, f⟩) (fun _ _ _ _ _ _ => rfl) rfl (by kernel_rfl) rfl (by kernel_rfl) rfl (by kernel_rfl) rfl (by kernel_rfl) rfl (by kernel_rfl) rfl (by kernel_rfl) (by kernel_rfl) (openu_of (opens_int Try.underlying5)) (openu_of (opens_int Try.underlying3)) (openu_of (opens_int Try.underlying3)) (openu_of (opens_int Try.underlying3)) (openu_of (opens_int Try.underlying3)) (openu_slice (d := P.k51) Try.underlying38 (by kernel_rfl) (openu_st4 (d0 := Kd.int .i64) (d1 := Kd.int .i64) (d2 := Kd.int .i64) (d3 := Kd.slice 5 (Kd.int .u8)) Try.underlying51 (fun x : P.S51 => (x.f0, x.f1, x.f2, x.f3)) (fun a b c d => ⟨a, b, c, d⟩) (fun _ _ _ _ => rfl) rfl (by kernel_rfl) rfl (by kernel_rfl) rfl (by kernel_rfl) rfl (by kernel_rfl) (by kernel_rfl) (openu_of (opens_int Try.underlying3)) (openu_of (opens_int Try.underlying3)) (openu_of (opens_int Try.underlying3)) (openu_slice (d := Kd.int .u8) Try.underlying45 (by kernel_rfl) (openu_of (opens_int Try.underlying5))))))) fu_l _ _ hf_l (show Rows.uptoBulk d1 ≤ 1048576 by omega)
  simp [Value.cells] at hcs_l
  obtain ⟨rfl, rfl, rfl⟩ := hcs_l
  refine (P.DiskScript.walk ma mb mc md A_m cap_m ms _ _ l W hC_m hle_m hC_l hle_l (fun x hx => P.isB_of (Nat.le_refl _) (hQ_m x hx)) hL_m (fun x hx => P.stepW_of (Nat.le_refl _) (hQ_l x hx))).mono fun e W' ⟨he, bel⟩ => ?_
  subst he
  exact ⟨_, rfl, _, _, _, [], _, [], hW', trodAll_mk1 (shut_bool Try.underlying4 _), (trodAll_cons_mk (Below.trod laidOut (by kernel_rfl) (of_decide_eq_true (by kernel_rfl)) k0 bel lt0) (trodAll_cons_mk (Below.trod laidOut (by kernel_rfl) (of_decide_eq_true (by kernel_rfl)) k1 bel lt1) trodAll_mk0)), rfl, bel.frame _, fun h => by cases h⟩
theorem over : Rows.diskScriptUptoRow.holds Try.pinned (Rows.OpenSpec.upto Rows.diskScriptSpec) :=
  OpenClaim.holds_of_cond 7 Try.f7 rfl rfl rfl rfl rfl rfl rfl ⟨rfl, rfl, rfl, rfl, rfl⟩ rfl rfl rfl rfl rfl (by kernel_rfl) Try.func7 (by kernel_rfl)
    (of_decide_eq_true (by kernel_rfl)) (by unfold Func.isWrapper; first | (rw [if_pos (by decide +kernel)]; kernel_rfl) | (rw [if_neg (by decide +kernel)]; exact ⟨rfl, rfl⟩))
    (fun os started H enc _ F => lifted os started H enc F)
end Go.Proofs.Ytemmhgfjfbdggaa.diskScript
namespace Go.Proofs.Ytemmhgfjfbdggaa
/-- The row, under a short name, for the claim. -/
theorem diskScript_holds : Rows.DiskScriptUptoSaid := diskScript.over
#print axioms diskScript_holds
end Go.Proofs.Ytemmhgfjfbdggaa
