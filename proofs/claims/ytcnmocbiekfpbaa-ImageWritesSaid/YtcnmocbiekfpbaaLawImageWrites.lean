/- An image behind any raw writes, or with a drive wiped, is what the document says: the call returns true for every image, raw writes and numbers. No condition. -/
import Derived.Test.YtcnmocbiekfpbaaRows
import Derived.Test.YtcnmocbiekfpbaaP9WA
import Derived.Test.YtcnmocbiekfpbaaP0OpensZ
import Derived.WalkKit
import Derived.ProofKit
import Derived.OpenShut
import Derived.ShutString
import Derived.ChangeOld
import Derived.Below
import Derived.SizedLaws
import Derived.Lib.SmallJoins
import Derived.Test.YtcnmocbiekfpbaaWSized
import Derived.Test.YtcnmocbiekfpbaaP0Opens
namespace Go.Proofs.Ytcnmocbiekfpbaa.imageWrites
open Go.Proofs.YtcnmocbiekfpbaaW.PrintWords
open Go.ChangeShapes Go.WideShapes Go.ChangeAt Go.RowKit Go.Joins
open Go.ChangeMaps (open_string shut_string)
open Go.Deep Go.Proofs.Ytcnmocbiekfpbaa.P
set_option linter.unusedVariables false
theorem own : ownKnob Try.prog.godebug = none := by kernel_rfl
theorem laidOut : laidOutB Try.prog = true := by kernel_rfl
set_option maxRecDepth 100000 in
set_option maxHeartbeats 1000000 in
theorem lifted (os : Os) (started : os.Started) (H : Type) (enc : TypeId × Value → H) :
    ReturnsInHanded {} Try.checked os 4 .any (Rows.imageWritesSpec.pre6 enc Try.prog Try.f4 Rows.imageWritesRow.domain false) (Rows.imageWritesSpec.post enc Try.prog Try.f4 false true false false) := by
  refine returnsInHanded_of_change_sized (C := Try.checked) own started (by kernel_rfl) Try.func4
    (ChangeSpec.witness6 (enc := enc) (C := Try.checked) false ⟨#[], #[.agg #[.int .i64 0, .int .i64 0, .int .i64 0, .int .i64 0, .slice none 0 0], .slice none 0 0, .int .i64 0, .int .i64 0], []⟩ 8 (by kernel_rfl) (by kernel_rfl) (by kernel_rfl) (by kernel_rfl)) ?_
  intro W base args ds gs before hval0 hW hcnd hsz0 _
  have hsz : (DataW.weightsEach Try.prog (Try.f4.params.toList ++ Rows.imageWritesSpec.plain.varTypes Try.prog) (ds ++ gs)).all (· ≤ reachBytes) = true := hsz0
  have hval : ∀ (j : Nat) t v, Try.f4.params[j]? = some t → args[j]? = some v → Value.okWide Try.prog W .any base t v := hval0
  have hW' := hW
  obtain ⟨p, q, hA0, hV, rfl, hfz, hnd⟩ := hW
  have hA : DataW.TrodAll enc Try.prog W 0 (fun _ => true) true Try.f4.params.toList args.toList ds p := hA0
  rw [Try.params4] at hA hval hsz
  obtain ⟨v0, vs0, d0, ds0, p0, q0, hargs, rfl, rfl, h0, r0⟩ := trodAll_cons hA
  obtain ⟨v1, vs1, d1, ds1, p1, q1, rfl, rfl, rfl, h1, r1⟩ := trodAll_cons r0
  obtain ⟨v2, vs2, d2, ds2, p2, q2, rfl, rfl, rfl, h2, r2⟩ := trodAll_cons r1
  obtain ⟨v3, vs3, d3, ds3, p3, q3, rfl, rfl, rfl, h3, r3⟩ := trodAll_cons r2
  obtain ⟨rfl, rfl, rfl⟩ := trodAll_nil r3
  obtain rfl : args = #[v0, v1, v2, v3] := by cases args; simp_all
  obtain ⟨rfl, rfl⟩ := trodVars_none hV
  have k0 := h0
  have lt0 : ∀ x ∈ p0, x.block < W.heap.size := by obtain ⟨m, hm⟩ := k0; exact DataW.trod_lt m _ _ _ hm
  obtain ⟨cs_m, rfl, hz_m⟩ := okWide_struct Try.underlying27 (hval 0 27 v0 rfl rfl)
  obtain ⟨fu_m, hf_m⟩ := h0
  obtain ⟨_, ⟨_, ms, rfl, ⟨ma, mb, mc, md, rfl, _⟩, hL_m, hQ_m⟩, hK_m⟩ := (openz_st2 (d0 := Kd.iso (Kd.pair (Kd.int .i64) (Kd.pair (Kd.int .i64) (Kd.pair (Kd.int .i64) (Kd.int .i64)))) (id : Int × Int × Int × Int → Int × Int × Int × Int)) (d1 := Kd.slice 33 (Kd.slice 5 (Kd.int .u8))) (β := (Int × Int × Int × Int) × List (List Int)) Try.underlying27 id (fun a b => (a, b)) (fun _ _ => rfl) rfl (by kernel_rfl) rfl (by kernel_rfl) (by kernel_rfl) (openz_of (opens_st4 (d0 := Kd.int .i64) (d1 := Kd.int .i64) (d2 := Kd.int .i64) (d3 := Kd.int .i64) (β := Int × Int × Int × Int) Try.underlying24 id (fun a b c d => (a, b, c, d)) (fun _ _ _ _ => rfl) rfl (by kernel_rfl) rfl (by kernel_rfl) rfl (by kernel_rfl) rfl (by kernel_rfl) (by kernel_rfl) (opens_int Try.underlying3) (opens_int Try.underlying3) (opens_int Try.underlying3) (opens_int Try.underlying3))) (openz_slice Try.underlying25 (by kernel_rfl) (openz_slice (d := Kd.int .u8) Try.underlying33 (by kernel_rfl) (openz_of (opens_int Try.underlying5))))) fu_m _ _ hf_m (fun q hq => of_decide_eq_true (List.all_eq_true.1 hsz _ (DataW.weights_mem_each (j := 0) (t := 27) rfl rfl q hq)))
  obtain ⟨_, _, he_m, ⟨_, _, rfl, rfl, _, _, rfl, rfl, _, _, rfl, rfl, rfl⟩, A_m, cap_m, rfl, hle_m, hC_m⟩ := hK_m
  obtain rfl : cs_m = #[.int .i64 ma, .int .i64 mb, .int .i64 mc, .int .i64 md, .slice A_m ms.length cap_m] := Array.ext' he_m
  have hS_m : ∀ x ∈ ms, x.length < 140737488355328 := by
    intro x hx
    have z := (hQ_m x hx).1
    rw [show Try.prog.bytesOf 5 = 1 by kernel_rfl, Nat.mul_one] at z
    unfold reachBytes at z
    omega
  have k1 := h1
  have lt1 : ∀ x ∈ p1, x.block < W.heap.size := by obtain ⟨m, hm⟩ := k1; exact DataW.trod_lt m _ _ _ hm
  obtain ⟨A_l, len_l, cap_l, rfl⟩ := okWide_slice Try.underlying32 (hval 1 32 v1 rfl rfl)
  obtain ⟨fu_l, hf_l⟩ := h1
  obtain ⟨l, ⟨hL_l, hQ_l⟩, A'_l, c'_l, hcs_l, hle_l, hC_l⟩ := (opens_slice (d := P.k35) Try.underlying32 (by kernel_rfl) (opens_st4 (d0 := Kd.int .i64) (d1 := Kd.int .i64) (d2 := Kd.int .i64) (d3 := Kd.slice 5 (Kd.int .u8)) Try.underlying35 (fun x : P.S35 => (x.f0, x.f1, x.f2, x.f3)) (fun a b c d => ⟨a, b, c, d⟩) (fun _ _ _ _ => rfl) rfl (by kernel_rfl) rfl (by kernel_rfl) rfl (by kernel_rfl) rfl (by kernel_rfl) (by kernel_rfl) (opens_int Try.underlying3) (opens_int Try.underlying3) (opens_int Try.underlying3) (opens_slice (d := Kd.int .u8) Try.underlying33 (by kernel_rfl) (opens_int Try.underlying5)))) fu_l _ _ hf_l
  simp [Value.cells] at hcs_l
  obtain ⟨rfl, rfl, rfl⟩ := hcs_l
  obtain ⟨n, rfl, rfl, rfl, w2⟩ := open_int Try.underlying3 (hval 2 3 v2 rfl rfl) h2
  obtain ⟨drive, rfl, rfl, rfl, w3⟩ := open_int Try.underlying3 (hval 3 3 v3 rfl rfl) h3
  refine (P.ImageWrites.all ma mb mc md _ _ ms _ _ l n drive W hC_m hle_m hC_l hle_l hS_m).mono fun e W' ⟨he, bel⟩ => ?_
  subst he
  exact ⟨_, rfl, _, _, _, [], _, [], hW', trodAll_mk1 (shut_bool Try.underlying4 _), (trodAll_cons_mk (Below.trod laidOut (by kernel_rfl) (of_decide_eq_true (by kernel_rfl)) k0 bel lt0) (trodAll_cons_mk (Below.trod laidOut (by kernel_rfl) (of_decide_eq_true (by kernel_rfl)) k1 bel lt1) (trodAll_cons_mk (shut_int Try.underlying3 w2) (trodAll_cons_mk (shut_int Try.underlying3 w3) trodAll_mk0)))), rfl, bel.frame _, fun h => by cases h⟩
theorem over : Rows.imageWritesRow.holds Try.pinned (OpenSpec.ofChange Rows.imageWritesSpec) :=
  OpenClaim.holds_of_wide 4 Try.f4 rfl rfl rfl rfl rfl rfl rfl ⟨rfl, rfl, rfl, rfl, rfl⟩ rfl rfl rfl rfl rfl (by kernel_rfl) Try.func4 (by kernel_rfl)
    (of_decide_eq_true (by kernel_rfl)) (by unfold Func.isWrapper; first | (rw [if_pos (by decide +kernel)]; kernel_rfl) | (rw [if_neg (by decide +kernel)]; exact ⟨rfl, rfl⟩))
    (fun os started H enc _ => lifted os started H enc)
end Go.Proofs.Ytcnmocbiekfpbaa.imageWrites
namespace Go.Proofs.Ytcnmocbiekfpbaa
/-- The row, under a short name, for the claim. -/
theorem imageWrites_holds : Rows.ImageWritesSaid := imageWrites.over
#print axioms imageWrites_holds
end Go.Proofs.Ytcnmocbiekfpbaa
