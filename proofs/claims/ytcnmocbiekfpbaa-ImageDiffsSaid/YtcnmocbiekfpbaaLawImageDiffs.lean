/- What is told to make one image of another one does so: the call returns true for every two images. No condition. -/
import Derived.Test.YtcnmocbiekfpbaaRows
import Derived.Test.YtcnmocbiekfpbaaP9D
import Derived.WalkKit
import Derived.ProofKit
import Derived.OpenShut
import Derived.ShutString
import Derived.ChangeOld
import Derived.Below
import Derived.SizedLaws
import Derived.Lib.SmallJoins
import Derived.Test.YtcnmocbiekfpbaaWSized
import Derived.Test.YtcnmocbiekfpbaaP0Opens
namespace Go.Proofs.Ytcnmocbiekfpbaa.imageDiffs
open Go.Proofs.YtcnmocbiekfpbaaW.PrintWords
open Go.ChangeShapes Go.WideShapes Go.ChangeAt Go.RowKit Go.Joins
open Go.ChangeMaps (open_string shut_string)
open Go.Deep Go.Proofs.Ytcnmocbiekfpbaa.P
set_option linter.unusedVariables false
theorem own : ownKnob Try.prog.godebug = none := by kernel_rfl
theorem laidOut : laidOutB Try.prog = true := by kernel_rfl
set_option maxRecDepth 100000 in
set_option maxHeartbeats 1000000 in
theorem lifted (os : Os) (started : os.Started) (H : Type) (enc : TypeId × Value → H) :
    ReturnsInHanded {} Try.checked os 8 .any (Rows.imageDiffsSpec.pre6 enc Try.prog Try.f8 Rows.imageDiffsRow.domain false) (Rows.imageDiffsSpec.post enc Try.prog Try.f8 false true false false) := by
  refine returnsInHanded_of_change_sized (C := Try.checked) own started (by kernel_rfl) Try.func8
    (ChangeSpec.witness6 (enc := enc) (C := Try.checked) false ⟨#[], #[.agg #[.int .i64 0, .int .i64 0, .int .i64 0, .int .i64 0, .slice none 0 0], .agg #[.int .i64 0, .int .i64 0, .int .i64 0, .int .i64 0, .slice none 0 0]], []⟩ 8 (by kernel_rfl) (by kernel_rfl) (by kernel_rfl) (by kernel_rfl)) ?_
  intro W base args ds gs before hval0 hW hcnd hsz0 _
  have hsz : (DataW.weightsEach Try.prog (Try.f8.params.toList ++ Rows.imageDiffsSpec.plain.varTypes Try.prog) (ds ++ gs)).all (· ≤ reachBytes) = true := hsz0
  have hval : ∀ (j : Nat) t v, Try.f8.params[j]? = some t → args[j]? = some v → Value.okWide Try.prog W .any base t v := hval0
  have hW' := hW
  obtain ⟨p, q, hA0, hV, rfl, hfz, hnd⟩ := hW
  have hA : DataW.TrodAll enc Try.prog W 0 (fun _ => true) true Try.f8.params.toList args.toList ds p := hA0
  rw [Try.params8] at hA hval hsz
  obtain ⟨v0, vs0, d0, ds0, p0, q0, hargs, rfl, rfl, h0, r0⟩ := trodAll_cons hA
  obtain ⟨v1, vs1, d1, ds1, p1, q1, rfl, rfl, rfl, h1, r1⟩ := trodAll_cons r0
  obtain ⟨rfl, rfl, rfl⟩ := trodAll_nil r1
  obtain rfl : args = #[v0, v1] := by cases args; simp_all
  obtain ⟨rfl, rfl⟩ := trodVars_none hV
  have k0 := h0
  have lt0 : ∀ x ∈ p0, x.block < W.heap.size := by obtain ⟨m, hm⟩ := k0; exact DataW.trod_lt m _ _ _ hm
  obtain ⟨cs_x, rfl, hz_x⟩ := okWide_struct Try.underlying27 (hval 0 27 v0 rfl rfl)
  obtain ⟨fu_x, hf_x⟩ := h0
  obtain ⟨_, ⟨_, xs, rfl, ⟨xa, xb, xc, xd, rfl, _⟩, hL_x, hQ_x⟩, hK_x⟩ := (opens_st2 (d0 := Kd.iso (Kd.pair (Kd.int .i64) (Kd.pair (Kd.int .i64) (Kd.pair (Kd.int .i64) (Kd.int .i64)))) (id : Int × Int × Int × Int → Int × Int × Int × Int)) (d1 := Kd.slice 33 (Kd.slice 5 (Kd.int .u8))) (β := (Int × Int × Int × Int) × List (List Int)) Try.underlying27 id (fun a b => (a, b)) (fun _ _ => rfl) rfl (by kernel_rfl) rfl (by kernel_rfl) (by kernel_rfl) (opens_st4 (d0 := Kd.int .i64) (d1 := Kd.int .i64) (d2 := Kd.int .i64) (d3 := Kd.int .i64) (β := Int × Int × Int × Int) Try.underlying24 id (fun a b c d => (a, b, c, d)) (fun _ _ _ _ => rfl) rfl (by kernel_rfl) rfl (by kernel_rfl) rfl (by kernel_rfl) rfl (by kernel_rfl) (by kernel_rfl) (opens_int Try.underlying3) (opens_int Try.underlying3) (opens_int Try.underlying3) (opens_int Try.underlying3)) (opens_slice Try.underlying25 (by kernel_rfl) (opens_slice (d := Kd.int .u8) Try.underlying33 (by kernel_rfl) (opens_int Try.underlying5)))) fu_x _ _ hf_x
  obtain ⟨_, _, he_x, ⟨_, _, rfl, rfl, _, _, rfl, rfl, _, _, rfl, rfl, rfl⟩, A_x, cap_x, rfl, hle_x, hC_x⟩ := hK_x
  obtain rfl : cs_x = #[.int .i64 xa, .int .i64 xb, .int .i64 xc, .int .i64 xd, .slice A_x xs.length cap_x] := Array.ext' he_x
  have k1 := h1
  have lt1 : ∀ x ∈ p1, x.block < W.heap.size := by obtain ⟨m, hm⟩ := k1; exact DataW.trod_lt m _ _ _ hm
  obtain ⟨cs_y, rfl, hz_y⟩ := okWide_struct Try.underlying27 (hval 1 27 v1 rfl rfl)
  obtain ⟨fu_y, hf_y⟩ := h1
  obtain ⟨_, ⟨_, ys, rfl, ⟨ya, yb, yc, yd, rfl, _⟩, hL_y, hQ_y⟩, hK_y⟩ := (opens_st2 (d0 := Kd.iso (Kd.pair (Kd.int .i64) (Kd.pair (Kd.int .i64) (Kd.pair (Kd.int .i64) (Kd.int .i64)))) (id : Int × Int × Int × Int → Int × Int × Int × Int)) (d1 := Kd.slice 33 (Kd.slice 5 (Kd.int .u8))) (β := (Int × Int × Int × Int) × List (List Int)) Try.underlying27 id (fun a b => (a, b)) (fun _ _ => rfl) rfl (by kernel_rfl) rfl (by kernel_rfl) (by kernel_rfl) (opens_st4 (d0 := Kd.int .i64) (d1 := Kd.int .i64) (d2 := Kd.int .i64) (d3 := Kd.int .i64) (β := Int × Int × Int × Int) Try.underlying24 id (fun a b c d => (a, b, c, d)) (fun _ _ _ _ => rfl) rfl (by kernel_rfl) rfl (by kernel_rfl) rfl (by kernel_rfl) rfl (by kernel_rfl) (by kernel_rfl) (opens_int Try.underlying3) (opens_int Try.underlying3) (opens_int Try.underlying3) (opens_int Try.underlying3)) (opens_slice Try.underlying25 (by kernel_rfl) (opens_slice (d := Kd.int .u8) Try.underlying33 (by kernel_rfl) (opens_int Try.underlying5)))) fu_y _ _ hf_y
  obtain ⟨_, _, he_y, ⟨_, _, rfl, rfl, _, _, rfl, rfl, _, _, rfl, rfl, rfl⟩, A_y, cap_y, rfl, hle_y, hC_y⟩ := hK_y
  obtain rfl : cs_y = #[.int .i64 ya, .int .i64 yb, .int .i64 yc, .int .i64 yd, .slice A_y ys.length cap_y] := Array.ext' he_y
  refine (P.twoslotlaw09_ImageDiffs.calls 200000 xa xb xc xd _ _ xs ya yb yc yd _ _ ys true W hC_x hle_x hC_y hle_y (P.ImageDiffs.ev xa xb xc xd xs ya yb yc yd ys)).mono fun e W' ⟨he, bel⟩ => ?_
  subst he
  exact ⟨_, rfl, _, _, _, [], _, [], hW', trodAll_mk1 (shut_bool Try.underlying4 _), (trodAll_cons_mk (Below.trod laidOut (by kernel_rfl) (of_decide_eq_true (by kernel_rfl)) k0 bel lt0) (trodAll_cons_mk (Below.trod laidOut (by kernel_rfl) (of_decide_eq_true (by kernel_rfl)) k1 bel lt1) trodAll_mk0)), rfl, bel.frame _, fun h => by cases h⟩
theorem over : Rows.imageDiffsRow.holds Try.pinned (OpenSpec.ofChange Rows.imageDiffsSpec) :=
  OpenClaim.holds_of_wide 8 Try.f8 rfl rfl rfl rfl rfl rfl rfl ⟨rfl, rfl, rfl, rfl, rfl⟩ rfl rfl rfl rfl rfl (by kernel_rfl) Try.func8 (by kernel_rfl)
    (of_decide_eq_true (by kernel_rfl)) (by unfold Func.isWrapper; first | (rw [if_pos (by decide +kernel)]; kernel_rfl) | (rw [if_neg (by decide +kernel)]; exact ⟨rfl, rfl⟩))
    (fun os started H enc _ => lifted os started H enc)
end Go.Proofs.Ytcnmocbiekfpbaa.imageDiffs
namespace Go.Proofs.Ytcnmocbiekfpbaa
/-- The row, under a short name, for the claim. -/
theorem imageDiffs_holds : Rows.ImageDiffsSaid := imageDiffs.over
#print axioms imageDiffs_holds
end Go.Proofs.Ytcnmocbiekfpbaa
