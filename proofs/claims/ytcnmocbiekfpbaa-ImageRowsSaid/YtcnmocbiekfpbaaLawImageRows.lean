/- Rows, differences and likeness of any two images are what the document says: the call returns true for every two images, row and parameters. No condition. -/
import Derived.Test.YtcnmocbiekfpbaaRows
import Derived.Test.YtcnmocbiekfpbaaP9IA
import Derived.Test.YtcnmocbiekfpbaaP0OpensZ
import Derived.WalkKit
import Derived.ProofKit
import Derived.OpenShut
import Derived.ShutString
import Derived.ChangeOld
import Derived.Below
import Derived.SizedLaws
import Derived.Lib.SmallJoins
import Derived.Test.YtcnmocbiekfpbaaWSized
import Derived.Test.YtcnmocbiekfpbaaP0Opens
namespace Go.Proofs.Ytcnmocbiekfpbaa.imageRows
open Go.Proofs.YtcnmocbiekfpbaaW.PrintWords
open Go.ChangeShapes Go.WideShapes Go.ChangeAt Go.RowKit Go.Joins
open Go.ChangeMaps (open_string shut_string)
open Go.Deep Go.Proofs.Ytcnmocbiekfpbaa.P
set_option linter.unusedVariables false
theorem own : ownKnob Try.prog.godebug = none := by kernel_rfl
theorem laidOut : laidOutB Try.prog = true := by kernel_rfl
set_option maxRecDepth 100000 in
set_option maxHeartbeats 1000000 in
theorem lifted (os : Os) (started : os.Started) (H : Type) (enc : TypeId × Value → H) :
    ReturnsInHanded {} Try.checked os 5 .any (Rows.imageRowsSpec.pre6 enc Try.prog Try.f5 Rows.imageRowsRow.domain false) (Rows.imageRowsSpec.post enc Try.prog Try.f5 false true false false) := by
  refine returnsInHanded_of_change_sized (C := Try.checked) own started (by kernel_rfl) Try.func5
    (ChangeSpec.witness6 (enc := enc) (C := Try.checked) false ⟨#[], #[.agg #[.int .i64 0, .int .i64 0, .int .i64 0, .int .i64 0, .slice none 0 0], .agg #[.int .i64 0, .int .i64 0, .int .i64 0, .int .i64 0, .slice none 0 0], .int .i64 0, .agg #[.int .i64 0, .int .i64 0, .int .i64 0, .int .i64 0]], []⟩ 8 (by kernel_rfl) (by kernel_rfl) (by kernel_rfl) (by kernel_rfl)) ?_
  intro W base args ds gs before hval0 hW hcnd hsz0 _
  have hsz : (DataW.weightsEach Try.prog (Try.f5.params.toList ++ Rows.imageRowsSpec.plain.varTypes Try.prog) (ds ++ gs)).all (· ≤ reachBytes) = true := hsz0
  have hval : ∀ (j : Nat) t v, Try.f5.params[j]? = some t → args[j]? = some v → Value.okWide Try.prog W .any base t v := hval0
  have hW' := hW
  obtain ⟨p, q, hA0, hV, rfl, hfz, hnd⟩ := hW
  have hA : DataW.TrodAll enc Try.prog W 0 (fun _ => true) true Try.f5.params.toList args.toList ds p := hA0
  rw [Try.params5] at hA hval hsz
  obtain ⟨v0, vs0, d0, ds0, p0, q0, hargs, rfl, rfl, h0, r0⟩ := trodAll_cons hA
  obtain ⟨v1, vs1, d1, ds1, p1, q1, rfl, rfl, rfl, h1, r1⟩ := trodAll_cons r0
  obtain ⟨v2, vs2, d2, ds2, p2, q2, rfl, rfl, rfl, h2, r2⟩ := trodAll_cons r1
  obtain ⟨v3, vs3, d3, ds3, p3, q3, rfl, rfl, rfl, h3, r3⟩ := trodAll_cons r2
  obtain ⟨rfl, rfl, rfl⟩ := trodAll_nil r3
  obtain rfl : args = #[v0, v1, v2, v3] := by cases args; simp_all
  obtain ⟨rfl, rfl⟩ := trodVars_none hV
  have k0 := h0
  have lt0 : ∀ x ∈ p0, x.block < W.heap.size := by obtain ⟨m, hm⟩ := k0; exact DataW.trod_lt m _ _ _ hm
  obtain ⟨cs_x, rfl, hz_x⟩ := okWide_struct Try.underlying27 (hval 0 27 v0 rfl rfl)
  obtain ⟨fu_x, hf_x⟩ := h0
  obtain ⟨_, ⟨_, xs, rfl, ⟨xa, xb, xc, xd, rfl, _⟩, hL_x, hQ_x⟩, hK_x⟩ := (openz_st2 (d0 := Kd.iso (Kd.pair (Kd.int .i64) (Kd.pair (Kd.int .i64) (Kd.pair (Kd.int .i64) (Kd.int .i64)))) (id : Int × Int × Int × Int → Int × Int × Int × Int)) (d1 := Kd.slice 33 (Kd.slice 5 (Kd.int .u8))) (β := (Int × Int × Int × Int) × List (List Int)) Try.underlying27 id (fun a b => (a, b)) (fun _ _ => rfl) rfl (by kernel_rfl) rfl (by kernel_rfl) (by kernel_rfl) (openz_of (opens_st4 (d0 := Kd.int .i64) (d1 := Kd.int .i64) (d2 := Kd.int .i64) (d3 := Kd.int .i64) (β := Int × Int × Int × Int) Try.underlying24 id (fun a b c d => (a, b, c, d)) (fun _ _ _ _ => rfl) rfl (by kernel_rfl) rfl (by kernel_rfl) rfl (by kernel_rfl) rfl (by kernel_rfl) (by kernel_rfl) (opens_int Try.underlying3) (opens_int Try.underlying3) (opens_int Try.underlying3) (opens_int Try.underlying3))) (openz_slice Try.underlying25 (by kernel_rfl) (openz_slice (d := Kd.int .u8) Try.underlying33 (by kernel_rfl) (openz_of (opens_int Try.underlying5))))) fu_x _ _ hf_x (fun q hq => of_decide_eq_true (List.all_eq_true.1 hsz _ (DataW.weights_mem_each (j := 0) (t := 27) rfl rfl q hq)))
  obtain ⟨_, _, he_x, ⟨_, _, rfl, rfl, _, _, rfl, rfl, _, _, rfl, rfl, rfl⟩, A_x, cap_x, rfl, hle_x, hC_x⟩ := hK_x
  obtain rfl : cs_x = #[.int .i64 xa, .int .i64 xb, .int .i64 xc, .int .i64 xd, .slice A_x xs.length cap_x] := Array.ext' he_x
  have hS_x : ∀ x ∈ xs, x.length < 140737488355328 := by
    intro x hx
    have z := (hQ_x x hx).1
    rw [show Try.prog.bytesOf 5 = 1 by kernel_rfl, Nat.mul_one] at z
    unfold reachBytes at z
    omega
  have k1 := h1
  have lt1 : ∀ x ∈ p1, x.block < W.heap.size := by obtain ⟨m, hm⟩ := k1; exact DataW.trod_lt m _ _ _ hm
  obtain ⟨cs_y, rfl, hz_y⟩ := okWide_struct Try.underlying27 (hval 1 27 v1 rfl rfl)
  obtain ⟨fu_y, hf_y⟩ := h1
  obtain ⟨_, ⟨_, ys, rfl, ⟨ya, yb, yc, yd, rfl, _⟩, hL_y, hQ_y⟩, hK_y⟩ := (openz_st2 (d0 := Kd.iso (Kd.pair (Kd.int .i64) (Kd.pair (Kd.int .i64) (Kd.pair (Kd.int .i64) (Kd.int .i64)))) (id : Int × Int × Int × Int → Int × Int × Int × Int)) (d1 := Kd.slice 33 (Kd.slice 5 (Kd.int .u8))) (β := (Int × Int × Int × Int) × List (List Int)) Try.underlying27 id (fun a b => (a, b)) (fun _ _ => rfl) rfl (by kernel_rfl) rfl (by kernel_rfl) (by kernel_rfl) (openz_of (opens_st4 (d0 := Kd.int .i64) (d1 := Kd.int .i64) (d2 := Kd.int .i64) (d3 := Kd.int .i64) (β := Int × Int × Int × Int) Try.underlying24 id (fun a b c d => (a, b, c, d)) (fun _ _ _ _ => rfl) rfl (by kernel_rfl) rfl (by kernel_rfl) rfl (by kernel_rfl) rfl (by kernel_rfl) (by kernel_rfl) (opens_int Try.underlying3) (opens_int Try.underlying3) (opens_int Try.underlying3) (opens_int Try.underlying3))) (openz_slice Try.underlying25 (by kernel_rfl) (openz_slice (d := Kd.int .u8) Try.underlying33 (by kernel_rfl) (openz_of (opens_int Try.underlying5))))) fu_y _ _ hf_y (fun q hq => of_decide_eq_true (List.all_eq_true.1 hsz _ (DataW.weights_mem_each (j := 1) (t := 27) rfl rfl q hq)))
  obtain ⟨_, _, he_y, ⟨_, _, rfl, rfl, _, _, rfl, rfl, _, _, rfl, rfl, rfl⟩, A_y, cap_y, rfl, hle_y, hC_y⟩ := hK_y
  obtain rfl : cs_y = #[.int .i64 ya, .int .i64 yb, .int .i64 yc, .int .i64 yd, .slice A_y ys.length cap_y] := Array.ext' he_y
  have hS_y : ∀ x ∈ ys, x.length < 140737488355328 := by
    intro x hx
    have z := (hQ_y x hx).1
    rw [show Try.prog.bytesOf 5 = 1 by kernel_rfl, Nat.mul_one] at z
    unfold reachBytes at z
    omega
  obtain ⟨row, rfl, rfl, rfl, w2⟩ := open_int Try.underlying3 (hval 2 3 v2 rfl rfl) h2
  have k3 := h3
  have lt3 : ∀ x ∈ p3, x.block < W.heap.size := by obtain ⟨m, hm⟩ := k3; exact DataW.trod_lt m _ _ _ hm
  obtain ⟨c3_0, c3_1, c3_2, c3_3, y3_0, y3_1, y3_2, y3_3, m3, rfl, hd3, hp3, hy3_0, hy3_1, hy3_2, hy3_3⟩ := open_agg4 Try.underlying24 (by kernel_rfl) (by kernel_rfl) (hval 3 24 v3 rfl rfl) h3
  obtain ⟨p0, e3_0, g3_0, w3_0⟩ := DataW.trod_int Try.underlying3 hy3_0
  simp at e3_0
  subst e3_0
  obtain ⟨p1, e3_1, g3_1, w3_1⟩ := DataW.trod_int Try.underlying3 hy3_1
  simp at e3_1
  subst e3_1
  obtain ⟨p2, e3_2, g3_2, w3_2⟩ := DataW.trod_int Try.underlying3 hy3_2
  simp at e3_2
  subst e3_2
  obtain ⟨p3, e3_3, g3_3, w3_3⟩ := DataW.trod_int Try.underlying3 hy3_3
  simp at e3_3
  subst e3_3
  refine (P.ImageRows.all xa xb xc xd _ _ xs ya yb yc yd _ _ ys row p0 p1 p2 p3 W hC_x hle_x hC_y hle_y hS_x hS_y).mono fun e W' ⟨he, bel⟩ => ?_
  subst he
  exact ⟨_, rfl, _, _, _, [], _, [], hW', trodAll_mk1 (shut_bool Try.underlying4 _), (trodAll_cons_mk (Below.trod laidOut (by kernel_rfl) (of_decide_eq_true (by kernel_rfl)) k0 bel lt0) (trodAll_cons_mk (Below.trod laidOut (by kernel_rfl) (of_decide_eq_true (by kernel_rfl)) k1 bel lt1) (trodAll_cons_mk (shut_int Try.underlying3 w2) (trodAll_cons_mk (Below.trod laidOut (by kernel_rfl) (of_decide_eq_true (by kernel_rfl)) k3 bel lt3) trodAll_mk0)))), rfl, bel.frame _, fun h => by cases h⟩
theorem over : Rows.imageRowsRow.holds Try.pinned (OpenSpec.ofChange Rows.imageRowsSpec) :=
  OpenClaim.holds_of_wide 5 Try.f5 rfl rfl rfl rfl rfl rfl rfl ⟨rfl, rfl, rfl, rfl, rfl⟩ rfl rfl rfl rfl rfl (by kernel_rfl) Try.func5 (by kernel_rfl)
    (of_decide_eq_true (by kernel_rfl)) (by unfold Func.isWrapper; first | (rw [if_pos (by decide +kernel)]; kernel_rfl) | (rw [if_neg (by decide +kernel)]; exact ⟨rfl, rfl⟩))
    (fun os started H enc _ => lifted os started H enc)
end Go.Proofs.Ytcnmocbiekfpbaa.imageRows
namespace Go.Proofs.Ytcnmocbiekfpbaa
/-- The row, under a short name, for the claim. -/
theorem imageRows_holds : Rows.ImageRowsSaid := imageRows.over
#print axioms imageRows_holds
end Go.Proofs.Ytcnmocbiekfpbaa
