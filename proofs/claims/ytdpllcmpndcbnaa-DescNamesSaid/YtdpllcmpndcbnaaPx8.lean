-- Written by a program of this session, after the kit's print.
import Derived.Test.YtdpllcmpndcbnaaPx0
import Derived.Test.YtdpllcmpndcbnaaP0Short
import Derived.Test.YtdpllcmpndcbnaaPx1
import Derived.Test.YtdpllcmpndcbnaaPx2
import Derived.Test.YtdpllcmpndcbnaaPx3
import Derived.Test.YtdpllcmpndcbnaaPx4
import Derived.Test.YtdpllcmpndcbnaaPx5
import Derived.Test.YtdpllcmpndcbnaaPx6
import Derived.Test.YtdpllcmpndcbnaaPx7
namespace Go.Proofs.Ytdpllcmpndcbnaa.P
open Go.RowKit Go.Proofs.YtdpllcmpndcbnaaW.PrintWords Go.Proofs.YtdpllcmpndcbnaaW.PrintLast Go.Proofs.YtdpllcmpndcbnaaW.PrintMore
attribute [local go_sem] max2_int min2_int max_two min_two max_three min_three max_four min_four   -- for this text's walks alone
set_option linter.unusedVariables false
set_option linter.unusedSimpArgs false

attribute [local go_sem high] eqA27
def twoslotlaw15_alive.j0 : Nat → List Int → List Int → List (S27) → Bool → Int → Int → Int → Int → Int → Int → List (S27) → Int → Int → List (S27) → Option (Bool)
  | 0, _, _, _, _, _, _, _, _, _, _, _, _, _, _ => none
  | k + 1, x3, x7, x9, x94, x251000, x251001, x251002, x251003, x255000, x255001, x255002, x266000, x266001, x266002 => if x94 = true then (none) else (if 3 < (x3.length : Int) then (if (rd x3 3) = 70 then (if 6 < (x3.length : Int) then (if (rd x3 6) = 2 then (if 8 < (x3.length : Int) then (if (rd x3 8) = 3 then (if 12 < (x3.length : Int) then (if (rd x3 12) = 5 then (if 14 < (x3.length : Int) then (if (rd x3 14) = 1 then (if 18 < (x3.length : Int) then (if (rd x3 18) = 6 then (if 19 < (x3.length : Int) then (if (rd x3 19) = 0 then ((twoslotref15_Same.f k x266000 x266001 x266002 x255000 x255001 x255002).bind fun t299 => (if t299 = true then (if 0 < (x9.length : Int) then (if 0 < (x255002.length : Int) then (if (((rd_T27 x9 0).f0) == ((rd_T27 x255002 0).f0) && (((rd_T27 x9 0).f1) == ((rd_T27 x255002 0).f1))) = true then (if 1 < (x7.length : Int) then (if (rd x7 1) = 3 then ((desc_Check.f k x251000 x251001 x251002 x251003 70 0 ([] : List (S27))).bind fun t303 => (some (t303 == 150))) else (none)) else (none)) else (none)) else (none)) else (none)) else (none))) else (none)) else (none)) else (none)) else (none)) else (none)) else (none)) else (none)) else (none)) else (none)) else (none)) else (none)) else (none)) else (none)) else (none))
def twoslotlaw15_alive.f (k : Nat)  : Option (Bool) := (twoslotlaw15_sample.f).bind fun bt246 => ((some (([(⟨3, 5⟩ : S27), (⟨1, 6⟩ : S27)] : List (S27)) : List (S27))).bind fun y251 => ((desc_Bytes.f k bt246.1 bt246.2.1 bt246.2.2.1 bt246.2.2.2 70 0 y251).bind fun bt255 => ((desc_Parse.f k bt246.1 bt246.2.1 bt246.2.2.1 bt246.2.2.2 bt255.1).bind fun bt259 => (if 1 ≤ (y251.length : Int) then ((desc_Leaf.f k bt246.1 bt246.2.1 bt246.2.2.1 bt246.2.2.2 (y251.take 1)).bind fun bt270 => ((desc_Refs.f k bt246.1 bt246.2.1 bt246.2.2.1 bt246.2.2.2 bt270.1 1).bind fun bt274 => ((desc_Refs.f k bt246.1 bt246.2.1 bt246.2.2.1 bt246.2.2.2 bt270.1 2).bind fun bt278 => (if 63 ≤ 281474976710656 then ((desc_Parse.f k bt246.1 bt246.2.1 bt246.2.2.1 bt246.2.2.2 (List.replicate 63 0)).bind fun bt285 => (if bt255.2 = 0 then (if bt259.2.2.2 = 0 then (if bt270.2 = 0 then (if bt274.2 = 0 then (if bt278.2 = 150 then (if bt285.2.2.2 = 20 then (if (bt255.1.length : Int) = 64 then (if (bt270.1.length : Int) = 64 then (twoslotlaw15_alive.j0 k bt255.1 bt270.1 bt274.1 ((bt274.1.length : Int) != 1) bt246.1 bt246.2.1 bt246.2.2.1 bt246.2.2.2 70 0 y251 bt259.1 bt259.2.1 bt259.2.2.1) else (none)) else (none)) else (none)) else (none)) else (none)) else (none)) else (none)) else (none))) else (none))))) else (none)))))
def twoslotlaw15_alive.T5 : Bool × List (List Nat × List Nat) := (true, [([], []), ([], []), ([1], [1]), ([2], [2]), ([0, 3], [0, 3]), ([4], [4]), ([5], [5]), ([5], [5]), ([6, 4, 0, 1, 2, 3, 4, 5, 6], [6]), ([7, 8, 0, 1, 2, 3, 4, 5, 6, 7, 8], [7])])
def twoslotlaw15_alive.B5 : List Nat := [0, 0, 2, 6, 15, 31, 63, 63, 127, 511]
theorem twoslotlaw15_alive.tab5 : rtab .any (opsOf Try.f9 5) = twoslotlaw15_alive.T5 := by kernel_rfl
theorem twoslotlaw15_alive.bits5 : waitsOk twoslotlaw15_alive.T5.2 twoslotlaw15_alive.B5 = true := by kernel_rfl
def twoslotlaw15_alive.T8 : Bool × List (List Nat × List Nat) := (true, [([], []), ([], []), ([0, 1], [0, 1]), ([2], [2]), ([3], [3]), ([3], [3]), ([], []), ([6, 4, 2, 0, 1, 2, 3, 4, 6], [4, 6]), ([5, 7, 0, 1, 2, 3, 4, 5, 6, 7], [5])])
def twoslotlaw15_alive.B8 : List Nat := [0, 0, 3, 7, 15, 15, 0, 95, 255]
theorem twoslotlaw15_alive.tab8 : rtab .any (opsOf Try.f9 8) = twoslotlaw15_alive.T8 := by kernel_rfl
theorem twoslotlaw15_alive.bits8 : waitsOk twoslotlaw15_alive.T8.2 twoslotlaw15_alive.B8 = true := by kernel_rfl
def twoslotlaw15_alive.T11 : Bool × List (List Nat × List Nat) := (true, [([], []), ([0], [0]), ([1], [1]), ([2], [2]), ([3], [3]), ([4], [4]), ([5, 4], [4, 5]), ([6, 4], [4, 6]), ([7, 4], [4, 7]), ([4, 8], [4, 8]), ([9, 4], [9]), ([10], [10]), ([11, 10], [10, 11]), ([12, 10], [10, 12]), ([13, 10], [10, 13]), ([10, 14], [10, 14]), ([15, 10], [15]), ([16], [16]), ([17, 16], [16, 17]), ([18, 16], [16, 18]), ([19, 16], [16, 19]), ([16, 20], [16, 20]), ([21, 16], [21]), ([22], [22]), ([23, 22], [22, 23]), ([24, 22], [22, 24]), ([25, 22], [22, 25]), ([22, 26], [22, 26]), ([27, 22], [27]), ([28], [28]), ([29, 28], [28, 29]), ([30, 28], [28, 30]), ([31, 28], [28, 31]), ([28, 32], [28, 32]), ([33, 28], [33]), ([34], [34]), ([35, 34], [34, 35]), ([36, 34], [34, 36]), ([37, 34], [34, 37]), ([34, 38], [34, 38]), ([39, 34], [39]), ([40], [40]), ([40], [40]), ([41, 42, 40, 40], [40, 41, 42]), ([40, 43], [40, 43]), ([44, 43], [44]), ([45], [45]), ([46, 45], [45, 46]), ([47, 45], [45, 47]), ([45], [45]), ([49, 45], [45, 49]), ([50, 45], [45, 50]), ([51, 45], [45, 51]), ([48, 52, 45], [45, 48, 52]), ([45, 53], [45, 53]), ([54, 45], [54]), ([55], [55]), ([56, 55], [55, 56]), ([57, 55], [55, 57]), ([58, 55], [55, 58]), ([55, 59], [55, 59]), ([60, 55], [60]), ([61], [61]), ([61], [61]), ([62, 63, 61, 61], [61, 62, 63]), ([64, 61], [61, 64]), ([61, 65], [61, 65]), ([66, 64, 0, 1, 2, 3, 4, 5, 6, 7, 8, 9, 10, 11, 12, 13, 14, 15, 16, 17, 18, 19, 20, 21, 22, 23, 24, 25, 26, 27, 28, 29, 30, 31, 32, 33, 34, 35, 36, 37, 38, 39, 40, 41, 42, 43, 44, 45, 46, 47, 48, 49, 50, 51, 52, 53, 54, 55, 56, 57, 58, 59, 60, 61, 62, 63, 64, 65, 66], [66])])
def twoslotlaw15_alive.B11 : List Nat := [0, 1, 3, 7, 15, 31, 63, 127, 255, 511, 1023, 2047, 4095, 8191, 16383, 32767, 65535, 131071, 262143, 524287, 1048575, 2097151, 4194303, 8388607, 16777215, 33554431, 67108863, 134217727, 268435455, 536870911, 1073741823, 2147483647, 4294967295, 8589934591, 17179869183, 34359738367, 68719476735, 137438953471, 274877906943, 549755813887, 1099511627775, 2199023255551, 2199023255551, 8796093022207, 17592186044415, 35184372088831, 70368744177663, 140737488355327, 281474976710655, 70368744177663, 633318697598975, 1759218604441599, 4011018418126847, 9007199254740991, 18014398509481983, 36028797018963967, 72057594037927935, 144115188075855871, 288230376151711743, 576460752303423487, 1152921504606846975, 2305843009213693951, 4611686018427387903, 4611686018427387903, 18446744073709551615, 36893488147419103231, 73786976294838206463, 147573952589676412927]
theorem twoslotlaw15_alive.tab11 : rtab .any (opsOf Try.f9 11) = twoslotlaw15_alive.T11 := by kernel_rfl
theorem twoslotlaw15_alive.bits11 : waitsOk twoslotlaw15_alive.T11.2 twoslotlaw15_alive.B11 = true := by kernel_rfl
set_option maxHeartbeats 8000000 in
set_option maxRecDepth 100000 in
theorem twoslotlaw15_alive.calls (k : Nat)  (r : Bool) (w : World) (h : twoslotlaw15_alive.f k  = some r) :
    Calls Try.prog 9 #[] w fun e w' => e = .returned (.bool r) ∧ Below w.heap.size w w' := by
  have hu24 := Try.underlying24
  have hu27 := Try.underlying27
  have hu35 := Try.underlying35
  have HB := Aside0.mk (Below.refl w.heap.size w)
  have H : ((twoslotlaw15_sample.f).bind fun bt246 => ((some (([(⟨3, 5⟩ : S27), (⟨1, 6⟩ : S27)] : List (S27)) : List (S27))).bind fun y251 => ((desc_Bytes.f k bt246.1 bt246.2.1 bt246.2.2.1 bt246.2.2.2 70 0 y251).bind fun bt255 => ((desc_Parse.f k bt246.1 bt246.2.1 bt246.2.2.1 bt246.2.2.2 bt255.1).bind fun bt259 => (if 1 ≤ (y251.length : Int) then ((desc_Leaf.f k bt246.1 bt246.2.1 bt246.2.2.1 bt246.2.2.2 (y251.take 1)).bind fun bt270 => ((desc_Refs.f k bt246.1 bt246.2.1 bt246.2.2.1 bt246.2.2.2 bt270.1 1).bind fun bt274 => ((desc_Refs.f k bt246.1 bt246.2.1 bt246.2.2.1 bt246.2.2.2 bt270.1 2).bind fun bt278 => (if 63 ≤ 281474976710656 then ((desc_Parse.f k bt246.1 bt246.2.1 bt246.2.2.1 bt246.2.2.2 (List.replicate 63 0)).bind fun bt285 => (if bt255.2 = 0 then (if bt259.2.2.2 = 0 then (if bt270.2 = 0 then (if bt274.2 = 0 then (if bt278.2 = 150 then (if bt285.2.2.2 = 20 then (if (bt255.1.length : Int) = 64 then (if (bt270.1.length : Int) = 64 then (twoslotlaw15_alive.j0 k bt255.1 bt270.1 bt274.1 ((bt274.1.length : Int) != 1) bt246.1 bt246.2.1 bt246.2.2.1 bt246.2.2.2 70 0 y251 bt259.1 bt259.2.1 bt259.2.2.1) else (none)) else (none)) else (none)) else (none)) else (none)) else (none)) else (none)) else (none))) else (none))))) else (none)))))) = some r := h
  clear h
  replace H := Option.bind_eq_some_iff.mp H
  obtain ⟨⟨t246, t247, t248, t249⟩, A10, H⟩ := H
  try dsimp only at H
  have A1 := Aside0.mk A10
  clear A10
  obtain ⟨y251, hy251⟩ : ∃ y_ : List (S27), y_ = (([(⟨3, 5⟩ : S27), (⟨1, 6⟩ : S27)] : List (S27))) := ⟨_, rfl⟩
  replace H : ((desc_Bytes.f k t246 t247 t248 t249 70 0 y251).bind fun bt255 => ((desc_Parse.f k t246 t247 t248 t249 bt255.1).bind fun bt259 => (if 1 ≤ (y251.length : Int) then ((desc_Leaf.f k t246 t247 t248 t249 (y251.take 1)).bind fun bt270 => ((desc_Refs.f k t246 t247 t248 t249 bt270.1 1).bind fun bt274 => ((desc_Refs.f k t246 t247 t248 t249 bt270.1 2).bind fun bt278 => (if 63 ≤ 281474976710656 then ((desc_Parse.f k t246 t247 t248 t249 (List.replicate 63 0)).bind fun bt285 => (if bt255.2 = 0 then (if bt259.2.2.2 = 0 then (if bt270.2 = 0 then (if bt274.2 = 0 then (if bt278.2 = 150 then (if bt285.2.2.2 = 20 then (if (bt255.1.length : Int) = 64 then (if (bt270.1.length : Int) = 64 then (twoslotlaw15_alive.j0 k bt255.1 bt270.1 bt274.1 ((bt274.1.length : Int) != 1) t246 t247 t248 t249 70 0 y251 bt259.1 bt259.2.1 bt259.2.2.1) else (none)) else (none)) else (none)) else (none)) else (none)) else (none)) else (none)) else (none))) else (none))))) else (none)))) = some r := by first | (rw [hy251]; with_reducible exact H) | (have H2_ := (Option.bind_some _ _).symm.trans H; rw [hy251]; with_reducible exact H2_) | (have H2_ := (Option.bind_some _ _).symm.trans H; with_reducible exact H2_) | with_reducible exact H | (rw [hy251]; exact H) | exact H
  have Ny251 := Aside0.mk hy251
  clear hy251
  replace H := Option.bind_eq_some_iff.mp H
  obtain ⟨⟨t255, t258⟩, A20, H⟩ := H
  try dsimp only at H
  have A2 := Aside0.mk A20
  clear A20
  replace H := Option.bind_eq_some_iff.mp H
  obtain ⟨⟨t259, t260, t261, t264⟩, A30, H⟩ := H
  try dsimp only at H
  have A3 := Aside0.mk A30
  clear A30
  by_cases c4 : 1 ≤ (y251.length : Int)
  · rw [if_pos c4] at H
    have c4b0 := eq_true c4
    have c4b1 : decide (1 ≤ (y251.length : Int)) = true := decide_eq_true c4
    clear c4
    obtain ⟨y266, hy266⟩ : ∃ y_ : List (S27), y_ = (y251.take 1) := ⟨_, rfl⟩
    replace H : ((desc_Leaf.f k t246 t247 t248 t249 y266).bind fun bt270 => ((desc_Refs.f k t246 t247 t248 t249 bt270.1 1).bind fun bt274 => ((desc_Refs.f k t246 t247 t248 t249 bt270.1 2).bind fun bt278 => (if 63 ≤ 281474976710656 then ((desc_Parse.f k t246 t247 t248 t249 (List.replicate 63 0)).bind fun bt285 => (if t258 = 0 then (if t264 = 0 then (if bt270.2 = 0 then (if bt274.2 = 0 then (if bt278.2 = 150 then (if bt285.2.2.2 = 20 then (if (t255.length : Int) = 64 then (if (bt270.1.length : Int) = 64 then (twoslotlaw15_alive.j0 k t255 bt270.1 bt274.1 ((bt274.1.length : Int) != 1) t246 t247 t248 t249 70 0 y251 t259 t260 t261) else (none)) else (none)) else (none)) else (none)) else (none)) else (none)) else (none)) else (none))) else (none))))) = some r := by first | (rw [hy266]; with_reducible exact H) | (have H2_ := (Option.bind_some _ _).symm.trans H; rw [hy266]; with_reducible exact H2_) | (have H2_ := (Option.bind_some _ _).symm.trans H; with_reducible exact H2_) | with_reducible exact H | (rw [hy266]; exact H) | exact H
    have Ny266 := Aside0.mk hy266
    clear hy266
    replace H := Option.bind_eq_some_iff.mp H
    obtain ⟨⟨t270, t273⟩, A50, H⟩ := H
    try dsimp only at H
    have A5 := Aside0.mk A50
    clear A50
    replace H := Option.bind_eq_some_iff.mp H
    obtain ⟨⟨t274, t277⟩, A60, H⟩ := H
    try dsimp only at H
    have A6 := Aside0.mk A60
    clear A60
    replace H := Option.bind_eq_some_iff.mp H
    obtain ⟨⟨t278, t281⟩, A70, H⟩ := H
    try dsimp only at H
    have A7 := Aside0.mk A70
    clear A70
    by_cases c8 : 63 ≤ 281474976710656
    · rw [if_pos c8] at H
      have c8b0 := eq_true c8
      have c8b1 : decide (63 ≤ 281474976710656) = true := decide_eq_true c8
      clear c8
      obtain ⟨y282, hy282⟩ : ∃ y_ : List Int, y_ = (List.replicate 63 0) := ⟨_, rfl⟩
      replace H : ((desc_Parse.f k t246 t247 t248 t249 y282).bind fun bt285 => (if t258 = 0 then (if t264 = 0 then (if t273 = 0 then (if t277 = 0 then (if t281 = 150 then (if bt285.2.2.2 = 20 then (if (t255.length : Int) = 64 then (if (t270.length : Int) = 64 then (twoslotlaw15_alive.j0 k t255 t270 t274 ((t274.length : Int) != 1) t246 t247 t248 t249 70 0 y251 t259 t260 t261) else (none)) else (none)) else (none)) else (none)) else (none)) else (none)) else (none)) else (none))) = some r := by first | (rw [hy282]; with_reducible exact H) | (have H2_ := (Option.bind_some _ _).symm.trans H; rw [hy282]; with_reducible exact H2_) | (have H2_ := (Option.bind_some _ _).symm.trans H; with_reducible exact H2_) | with_reducible exact H | (rw [hy282]; exact H) | exact H
      have Ny282 := Aside0.mk hy282
      clear hy282
      replace H := Option.bind_eq_some_iff.mp H
      obtain ⟨⟨t285, t286, t287, t290⟩, A90, H⟩ := H
      try dsimp only at H
      have A9 := Aside0.mk A90
      clear A90
      have HC10 := Aside0.mk H
      clear H
      go_enter Try.func9, Try.ntmps9
      try go_wp2_with (first | ((with_reducible refine gate_callee (f := 10) rfl ?_); refine goesL_ (some 15) rfl rfl Try.func10 (by kernel_rfl) rfl #[] rfl (by (try simp only [sM]); first | done | rfl | (simp only [sT]; rfl)) ?_; (with_reducible refine (twoslotlaw15_sample.calls  t246 t247 t248 t249 _ A1.out).mono ?_); rintro e w11 ⟨rfl, hb⟩; refine ⟨_, rfl, ?_⟩; replace HB := kH HB hb; (try clear hb); (try clear hb2); (try clear hk); (try clear hi)) | ((with_reducible refine gate_dst (N := 1) rfl ?_); (try (refine gate_guard (by rfl) ?_; dsimp only)); refine box_event rfl (N := 1) rfl (cs := #[.int .i64 0, .int .i64 0, .int .i64 0, .int .i64 0]) (t := 24) (by go_simp; try rfl) ?_; intro gb250 hg w12 hbox hb; have BK250 := Aside0.mk (hbox); have GW250 := Aside0.mk ((by rw [hg]; exact (sZ HB) : w.heap.size ≤ gb250)); have GE250 := Aside0.mk ((by rw [hg]; exact (sZ HB) : w.heap.size ≤ gb250)); replace HB := kH HB hb; clear hb hbox hg; obtain ⟨hcz13_0, hcz13_1, hcz13_2, hcz13_3, hfz13_0, hfz13_1, hfz13_2, hfz13_3⟩ := cs4 BK250.out) | ((with_reducible refine gate_dst (N := 18) rfl ?_); (try (refine gate_guard (by rfl) ?_; dsimp only)); refine Kd.R_lit k27 _ 27 ?hg (N := 18) ?hd (xs := ([(⟨3, 5⟩ : S27), (⟨1, 6⟩ : S27)] : List (S27))) (inner := [.int .i64 3, .int .i64 5, .int .i64 1, .int .i64 6]) (ok := fun _ => True) (okp := fun _ => True) ?hr ?hp (fun _ hk => hk) trivial (Below.refl _ _) (Nat.le_refl _) (by simp) ?_; (case hd => rfl); (case hg => rfl); (case hr => first | (go_simp; done) | (go_simp; rfl)); (case hp => exact (Reps.c2 (show Kd.M k27 _ _ _ (⟨3, 5⟩ : S27) [.int .i64 3, .int .i64 5] from (k27_mkM _ _ _ (⟨3, 5⟩ : S27) )) (Reps.c2 (show Kd.M k27 _ _ _ (⟨1, 6⟩ : S27) [.int .i64 1, .int .i64 6] from (k27_mkM _ _ _ (⟨1, 6⟩ : S27) )) (Reps.none _ _)))); intro v252 w14 ho15 hb hg_ hnew_; clear hg_ hnew_; (first | rw [← Ny251.out] at ho15 | (simp only [Int.reduceToNat] at ho15; rw [← Ny251.out] at ho15)); have HO253 := Aside0.mk (Kd.R_lower ho15 (below_size (by repeat (first | exact sH HB.out | refine sN (w := w) ?_ | with_reducible refine sG (w := w) ?_ (by assumption))))); replace BK250 := Aside0.mk (blk_below (g := gb250) (o := .cells #[.int .i64 t246, .int .i64 t247, .int .i64 t248, .int .i64 t249] 24 (0, 0)) (by (try refine sO ?_); refine blk_put (cs := #[.int .i64 t246, .int .i64 t247, .int .i64 t248, .int .i64 0]) ?_ 3 _ rfl; (try refine sO ?_); refine blk_put (cs := #[.int .i64 t246, .int .i64 t247, .int .i64 0, .int .i64 0]) ?_ 2 _ rfl; (try refine sO ?_); refine blk_put (cs := #[.int .i64 t246, .int .i64 0, .int .i64 0, .int .i64 0]) ?_ 1 _ rfl; (try refine sO ?_); refine blk_put (cs := #[.int .i64 0, .int .i64 0, .int .i64 0, .int .i64 0]) ?_ 0 _ rfl; first | exact BK250.out | (refine sO ?_; exact BK250.out)) hb); replace HB := Aside0.mk (below_step (by repeat (first | exact sH HB.out | refine sN (w := w) ?_ | with_reducible refine sG (w := w) ?_ (by assumption))) hb); clear hb ho15; obtain ⟨Ao16, co16, eo16⟩ := Kd.R_slice HO253.out; subst eo16) | ((with_reducible refine gate_dst (N := 2) rfl ?_); (try (refine gate_guard (by rfl) ?_; dsimp only)); refine box_event rfl (N := 2) rfl (cs := #[.int .i64 0, .int .i64 0, .slice none 0 0]) (t := 35) (by go_simp; try rfl) ?_; intro gb254 hg w17 hbox hb; replace HO253 := Aside0.mk (Kd.R_below (sR HO253.out) hb); have BK254 := Aside0.mk (hbox); have GW254 := Aside0.mk ((by rw [hg]; exact (below_size (by repeat (first | exact sH HB.out | refine sN (w := w) ?_ | with_reducible refine sG (w := w) ?_ (by assumption)))) : w.heap.size ≤ gb254)); have GE254 := Aside0.mk ((by rw [hg]; exact (below_size (by repeat (first | exact sH HB.out | refine sN (w := w) ?_ | with_reducible refine sG (w := w) ?_ (by assumption)))) : w.heap.size ≤ gb254)); replace HB := Aside0.mk (below_step (by repeat (first | exact sH HB.out | refine sN (w := w) ?_ | with_reducible refine sG (w := w) ?_ (by assumption))) hb); have NB250_254 := Aside0.mk ((by rw [hg]; exact Nat.ne_of_lt (blk_lt (g := gb250) (o := .cells #[.int .i64 t246, .int .i64 t247, .int .i64 t248, .int .i64 t249] 24 (0, 0)) (by first | exact BK250.out | (refine sO ?_; exact BK250.out))) : gb250 ≠ gb254)); have NB254_250 := Aside0.mk ((by rw [hg]; exact Nat.ne_of_gt (blk_lt (g := gb250) (o := .cells #[.int .i64 t246, .int .i64 t247, .int .i64 t248, .int .i64 t249] 24 (0, 0)) (by first | exact BK250.out | (refine sO ?_; exact BK250.out))) : gb254 ≠ gb250)); replace BK250 := kB BK250 hb; clear hb hbox hg; have hnb18 := NB254_250.out; have hnc18 := NB250_254.out; obtain ⟨hcz19_0, hcz19_1, hcz19_2, hfz19_0, hfz19_1, hfz19_2⟩ := cs3 BK254.out; obtain ⟨hcz20_0, hcz20_1, hcz20_2, hcz20_3, hfz20_0, hfz20_1, hfz20_2, hfz20_3⟩ := cs4 BK250.out) | ((with_reducible refine gate_callee (f := 14) rfl ?_); refine goesL_ (some 23) rfl rfl Try.func14 (by kernel_rfl) rfl #[.agg #[.int .i64 t246, .int .i64 t247, .int .i64 t248, .int .i64 t249], .agg #[.int .i64 70, .int .i64 0, .slice Ao16 y251.length co16]] rfl (by (try simp only [sM]); first | done | rfl | (simp only [sT]; rfl)) ?_; (with_reducible refine (desc_Bytes.calls k t246 t247 t248 t249 70 0 _ _ y251 t255 t258 _ ?side1 ?side2 A2.out).mono ?_); (case side1 => refine (Kd.R_reads' (e := 27) (base := w.heap.size) (ok := fun k_ => True) (n := y251.length) (c := co16) ?_).2.2; exact (by (with_reducible repeat (first | apply Kd.R_alloc | apply Kd.R_drewN | apply Kd.R_drew)); exact (Kd.R_mono (Kd.R_far (p := ⟨gb254, 2, none⟩) (Kd.R_far (p := ⟨gb254, 1, none⟩) (Kd.R_far (p := ⟨gb254, 0, none⟩) (Kd.R_types HO253.out BK254.out (by decide)) (fun _ hk => hk.2) (.int .i64 70)) (fun _ hk => hk.2) (.int .i64 0)) (fun _ hk => hk.2) (.slice Ao16 y251.length co16)) (fun _ h_ => h_.1)))); (case side2 => exact (Kd.R_reads' HO253.out).2.1); rintro e w21 ⟨v256, rfl, ho0, hb⟩; refine ⟨_, rfl, ?_⟩; replace HO253 := Aside0.mk (Kd.R_below (by (with_reducible repeat (first | apply Kd.R_alloc | apply Kd.R_drewN | apply Kd.R_drew)); exact (Kd.R_mono (Kd.R_far (p := ⟨gb254, 2, none⟩) (Kd.R_far (p := ⟨gb254, 1, none⟩) (Kd.R_far (p := ⟨gb254, 0, none⟩) (Kd.R_types HO253.out BK254.out (by decide)) (fun _ hk => hk.2) (.int .i64 70)) (fun _ hk => hk.2) (.int .i64 0)) (fun _ hk => hk.2) (.slice Ao16 y251.length co16)) (fun _ h_ => h_.1))) hb); have HO257 := Aside0.mk (Kd.R_lower ho0 (below_size (by repeat (first | exact sH HB.out | refine sN (w := w) ?_ | with_reducible refine sG (w := w) ?_ (by assumption))))); replace BK250 := Aside0.mk (blk_below (g := gb250) (o := .cells #[.int .i64 t246, .int .i64 t247, .int .i64 t248, .int .i64 t249] 24 (0, 0)) (by (try refine sO ?_); refine blk_far ?_ NB250_254.out _; (try refine sO ?_); refine blk_far ?_ NB250_254.out _; (try refine sO ?_); refine blk_far ?_ NB250_254.out _; first | exact BK250.out | (refine sO ?_; exact BK250.out)) hb); replace BK254 := Aside0.mk (blk_below (g := gb254) (o := .cells #[.int .i64 70, .int .i64 0, .slice Ao16 y251.length co16] 35 (0, 0)) (by (try refine sO ?_); refine blk_put (cs := #[.int .i64 70, .int .i64 0, .slice none 0 0]) ?_ 2 _ rfl; (try refine sO ?_); refine blk_put (cs := #[.int .i64 70, .int .i64 0, .slice none 0 0]) ?_ 1 _ rfl; (try refine sO ?_); refine blk_put (cs := #[.int .i64 0, .int .i64 0, .slice none 0 0]) ?_ 0 _ rfl; first | exact BK254.out | (refine sO ?_; exact BK254.out)) hb); replace HB := Aside0.mk (below_step (by repeat (first | exact sH HB.out | refine sN (w := w) ?_ | with_reducible refine sG (w := w) ?_ (by assumption))) hb); (try clear hb); (try clear hb2); (try clear hk); (try clear hi); (try clear ho0); obtain ⟨hcz22_0, hcz22_1, hcz22_2, hcz22_3, hfz22_0, hfz22_1, hfz22_2, hfz22_3⟩ := cs4 BK250.out; obtain ⟨Ao23, co23, eo23⟩ := Kd.R_slice HO257.out; subst eo23) | ((with_reducible refine gate_callee (f := 15) rfl ?_); refine goesL_ (some 29) rfl rfl Try.func15 (by kernel_rfl) rfl #[.agg #[.int .i64 t246, .int .i64 t247, .int .i64 t248, .int .i64 t249], .slice Ao23 t255.length co23] rfl (by (try simp only [sM]); first | done | rfl | (simp only [sT]; rfl)) ?_; (with_reducible refine (desc_Parse.calls k t246 t247 t248 t249 _ _ t255 t259 t260 t261 t264 _ ?side1 ?side2 A3.out).mono ?_); (case side1 => exact sC (Kd.R_reads' HO257.out).2.2); (case side2 => exact (Kd.R_reads' HO257.out).2.1); rintro e w24 ⟨v262, rfl, ho0, hb⟩; refine ⟨_, rfl, ?_⟩; replace HO257 := Aside0.mk (Kd.R_below (sR HO257.out) hb); have HO263 := Aside0.mk (Kd.R_lower (Kd.R_new' ho0 (Kd.R_lt (sR HO253.out))) (below_size (by repeat (first | exact sH HB.out | refine sN (w := w) ?_ | with_reducible refine sG (w := w) ?_ (by assumption))))); replace HO253 := Aside0.mk (Kd.R_elder' (sR HO253.out) (Kd.R_base ho0) hb); replace BK250 := kB BK250 hb; replace BK254 := kB BK254 hb; replace HB := Aside0.mk (below_step (by repeat (first | exact sH HB.out | refine sN (w := w) ?_ | with_reducible refine sG (w := w) ?_ (by assumption))) hb); (try clear hb); (try clear hb2); (try clear hk); (try clear hi); (try clear ho0)) | ((with_reducible refine gate_dst (N := 5) rfl ?_); (try (refine gate_guard (by rfl) ?_; dsimp only)); refine box_event rfl (N := 5) rfl (cs := #[.int .i64 0, .int .i64 0, .slice none 0 0]) (t := 35) (by go_simp; try rfl) ?_; intro gb265 hg w25 hbox hb; replace HO253 := Aside0.mk (Kd.R_below (sR HO253.out) hb); replace HO257 := Aside0.mk (Kd.R_below (sR HO257.out) hb); replace HO263 := Aside0.mk (Kd.R_below (sR HO263.out) hb); have BK265 := Aside0.mk (hbox); have GW265 := Aside0.mk ((by rw [hg]; exact (below_size (by repeat (first | exact sH HB.out | refine sN (w := w) ?_ | with_reducible refine sG (w := w) ?_ (by assumption)))) : w.heap.size ≤ gb265)); have GE265 := Aside0.mk ((by rw [hg]; exact (below_size (by repeat (first | exact sH HB.out | refine sN (w := w) ?_ | with_reducible refine sG (w := w) ?_ (by assumption)))) : w.heap.size ≤ gb265)); replace HB := Aside0.mk (below_step (by repeat (first | exact sH HB.out | refine sN (w := w) ?_ | with_reducible refine sG (w := w) ?_ (by assumption))) hb); have NB250_265 := Aside0.mk ((by rw [hg]; exact Nat.ne_of_lt (blk_lt (g := gb250) (o := .cells #[.int .i64 t246, .int .i64 t247, .int .i64 t248, .int .i64 t249] 24 (0, 0)) (by first | exact BK250.out | (refine sO ?_; exact BK250.out))) : gb250 ≠ gb265)); have NB265_250 := Aside0.mk ((by rw [hg]; exact Nat.ne_of_gt (blk_lt (g := gb250) (o := .cells #[.int .i64 t246, .int .i64 t247, .int .i64 t248, .int .i64 t249] 24 (0, 0)) (by first | exact BK250.out | (refine sO ?_; exact BK250.out))) : gb265 ≠ gb250)); replace BK250 := kB BK250 hb; have NB254_265 := Aside0.mk ((by rw [hg]; exact Nat.ne_of_lt (blk_lt (g := gb254) (o := .cells #[.int .i64 70, .int .i64 0, .slice Ao16 y251.length co16] 35 (0, 0)) (by first | exact BK254.out | (refine sO ?_; exact BK254.out))) : gb254 ≠ gb265)); have NB265_254 := Aside0.mk ((by rw [hg]; exact Nat.ne_of_gt (blk_lt (g := gb254) (o := .cells #[.int .i64 70, .int .i64 0, .slice Ao16 y251.length co16] 35 (0, 0)) (by first | exact BK254.out | (refine sO ?_; exact BK254.out))) : gb265 ≠ gb254)); replace BK254 := kB BK254 hb; clear hb hbox hg; have hnb26 := NB265_250.out; have hnc26 := NB250_265.out; have hnb27 := NB265_254.out; have hnc27 := NB254_265.out; obtain ⟨hcz28_0, hcz28_1, hcz28_2, hfz28_0, hfz28_1, hfz28_2⟩ := cs3 BK265.out; obtain ⟨Ao29, co29, eo29⟩ := Kd.R_slice HO263.out; subst eo29))
      have n0_ : Aside0 (Kd.R k27 27 (((w25.setCell ⟨gb265, 0, none⟩ (.int .i64 t259)).setCell ⟨gb265, 1, none⟩ (.int .i64 t260)).setCell ⟨gb265, 2, none⟩ (.slice Ao29 t261.length co29)) w.heap.size (fun k_ => some k_ ≠ (.slice Ao29 t261.length co29 : Value).ownBlock) (.slice Ao16 y251.length co16) y251) := ⟨by (with_reducible repeat (first | apply Kd.R_alloc | apply Kd.R_drewN | apply Kd.R_drew)); exact Kd.R_mono (Kd.R_far (p := ⟨gb265, 2, none⟩) (Kd.R_far (p := ⟨gb265, 1, none⟩) (Kd.R_far (p := ⟨gb265, 0, none⟩) (Kd.R_types HO253.out BK265.out (by decide)) (fun _ hk => hk.2) (.int .i64 t259)) (fun _ hk => hk.2) (.int .i64 t260)) (fun _ hk => hk.2) (.slice Ao29 t261.length co29)) (fun _ hk => hk.1.2)⟩
      have n1_ : Aside0 (Kd.R (Kd.int .u8) 5 (((w25.setCell ⟨gb265, 0, none⟩ (.int .i64 t259)).setCell ⟨gb265, 1, none⟩ (.int .i64 t260)).setCell ⟨gb265, 2, none⟩ (.slice Ao29 t261.length co29)) w.heap.size (fun _ => True) (.slice Ao23 t255.length co23) t255) := ⟨by (with_reducible repeat (first | apply Kd.R_alloc | apply Kd.R_drewN | apply Kd.R_drew)); exact Kd.R_mono (Kd.R_far (p := ⟨gb265, 2, none⟩) (Kd.R_far (p := ⟨gb265, 1, none⟩) (Kd.R_far (p := ⟨gb265, 0, none⟩) (Kd.R_types HO257.out BK265.out (by decide)) (fun _ hk => hk.2) (.int .i64 t259)) (fun _ hk => hk.2) (.int .i64 t260)) (fun _ hk => hk.2) (.slice Ao29 t261.length co29)) (fun _ hk => trivial)⟩
      have n2_ : Aside0 (Kd.R k27 27 (((w25.setCell ⟨gb265, 0, none⟩ (.int .i64 t259)).setCell ⟨gb265, 1, none⟩ (.int .i64 t260)).setCell ⟨gb265, 2, none⟩ (.slice Ao29 t261.length co29)) w.heap.size (fun k_ => some k_ ≠ (.slice Ao16 y251.length co16 : Value).ownBlock) (.slice Ao29 t261.length co29) t261) := ⟨by (with_reducible repeat (first | apply Kd.R_alloc | apply Kd.R_drewN | apply Kd.R_drew)); exact Kd.R_mono (Kd.R_far (p := ⟨gb265, 2, none⟩) (Kd.R_far (p := ⟨gb265, 1, none⟩) (Kd.R_far (p := ⟨gb265, 0, none⟩) (Kd.R_types HO263.out BK265.out (by decide)) (fun _ hk => hk.2) (.int .i64 t259)) (fun _ hk => hk.2) (.int .i64 t260)) (fun _ hk => hk.2) (.slice Ao29 t261.length co29)) (fun _ hk => hk.1.2)⟩
      have n3_ : Aside0 ((((w25.setCell ⟨gb265, 0, none⟩ (.int .i64 t259)).setCell ⟨gb265, 1, none⟩ (.int .i64 t260)).setCell ⟨gb265, 2, none⟩ (.slice Ao29 t261.length co29)).heap[gb250]? = some (.cells #[.int .i64 t246, .int .i64 t247, .int .i64 t248, .int .i64 t249] 24 (0, 0))) := ⟨by (try refine sO ?_); refine blk_far ?_ NB250_265.out _; (try refine sO ?_); refine blk_far ?_ NB250_265.out _; (try refine sO ?_); refine blk_far ?_ NB250_265.out _; (try refine sO ?_); exact BK250.out⟩
      have n4_ : Aside0 ((((w25.setCell ⟨gb265, 0, none⟩ (.int .i64 t259)).setCell ⟨gb265, 1, none⟩ (.int .i64 t260)).setCell ⟨gb265, 2, none⟩ (.slice Ao29 t261.length co29)).heap[gb254]? = some (.cells #[.int .i64 70, .int .i64 0, .slice Ao16 y251.length co16] 35 (0, 0))) := ⟨by (try refine sO ?_); refine blk_far ?_ NB254_265.out _; (try refine sO ?_); refine blk_far ?_ NB254_265.out _; (try refine sO ?_); refine blk_far ?_ NB254_265.out _; (try refine sO ?_); exact BK254.out⟩
      have n5_ : Aside0 ((((w25.setCell ⟨gb265, 0, none⟩ (.int .i64 t259)).setCell ⟨gb265, 1, none⟩ (.int .i64 t260)).setCell ⟨gb265, 2, none⟩ (.slice Ao29 t261.length co29)).heap[gb265]? = some (.cells #[.int .i64 t259, .int .i64 t260, .slice Ao29 t261.length co29] 35 (0, 0))) := ⟨by (try refine sO ?_); refine blk_put (cs := #[.int .i64 t259, .int .i64 t260, .slice none 0 0]) ?_ 2 _ rfl; (try refine sO ?_); refine blk_put (cs := #[.int .i64 t259, .int .i64 0, .slice none 0 0]) ?_ 1 _ rfl; (try refine sO ?_); refine blk_put (cs := #[.int .i64 0, .int .i64 0, .slice none 0 0]) ?_ 0 _ rfl; (try refine sO ?_); exact BK265.out⟩
      have n6_ : Aside0 (Below w.heap.size w (((w25.setCell ⟨gb265, 0, none⟩ (.int .i64 t259)).setCell ⟨gb265, 1, none⟩ (.int .i64 t260)).setCell ⟨gb265, 2, none⟩ (.slice Ao29 t261.length co29))) := ⟨by repeat (first | exact sH HB.out | refine sN (w := w) ?_ | with_reducible refine sG (w := w) ?_ (by assumption))⟩
      (try clear HO253)
      (try clear HO257)
      (try clear HO263)
      (try clear BK250)
      (try clear BK254)
      (try clear BK265)
      (try clear HB)
      generalize (((w25.setCell ⟨gb265, 0, none⟩ (.int .i64 t259)).setCell ⟨gb265, 1, none⟩ (.int .i64 t260)).setCell ⟨gb265, 2, none⟩ (.slice Ao29 t261.length co29)) = w30 at n0_ n1_ n2_ n3_ n4_ n5_ n6_ ⊢
      have HO253 := n0_; have HO257 := n1_; have HO263 := n2_; have BK250 := n3_; have BK254 := n4_; have BK265 := n5_; have HB := n6_; clear n0_ n1_ n2_ n3_ n4_ n5_ n6_; have n0_ := Aside0.mk (Kd.R_drew HO253.out); have n1_ := Aside0.mk (Kd.R_drew HO257.out); have n2_ := Aside0.mk (Kd.R_drew HO263.out); have n3_ := Aside0.mk (blk_drew BK250.out); have n4_ := Aside0.mk (blk_drew BK254.out); have n5_ := Aside0.mk (blk_drew BK265.out); have n6_ := Aside0.mk (below_drew1 HB.out); clear HO253; clear HO257; clear HO263; clear BK250; clear BK254; clear BK265; clear HB; have HO253 := n0_; have HO257 := n1_; have HO263 := n2_; have BK250 := n3_; have BK254 := n4_; have BK265 := n5_; have HB := n6_; clear n0_ n1_ n2_ n3_ n4_ n5_ n6_
      have q32 : (1 : Int) ≤ ((y251.length : Int) : Int) := of_decide_eq_true (by first | (with_reducible assumption) | assumption)
      obtain ⟨i032, hi032, _, hsz32, _⟩ := info_parts info27
      have hroom32 : y251.length ≤ co16 := (Kd.R_reads' HO253.out).2.1
      have hC32 : Kd.C k27 _ Ao16 y251.length y251 := (Kd.R_reads' HO253.out).2.2
      have hcut32 := cut_to (P := Try.prog) 28 27 .i64 Try.underlying28 hi032 Ao16 y251.length co16 1 (by omega) q32 hroom32
      have hr32 := Kd.C_take (m := 1) hC32 (by omega)
      have hy32 : y266.length = (1 : Int).toNat := (by rw [Ny266.out, List.length_take]; omega)
      rw [← Ny266.out] at hr32
      rw [← hy32] at hcut32
      have HR269 := Aside0.mk hr32
      have HC269 := Aside0.mk (show y266.length ≤ co16 from by omega)
      clear hr32 hC32 hroom32 hi032 hsz32
      have KY32 := Aside0.mk hy32
      clear hy32
      have KL32 := Aside0.mk (show 1 ≤ y251.length from by omega)
      replace q32 := eq_true q32
      refine start_ (n := 10) (S := fun w' => w'.cell? ⟨gb250, 0, none⟩ = some (.int .i64 t246) ∧ w'.cell? ⟨gb250, 1, none⟩ = some (.int .i64 t247) ∧ w'.cell? ⟨gb250, 2, none⟩ = some (.int .i64 t248) ∧ w'.cell? ⟨gb250, 3, none⟩ = some (.int .i64 t249) ∧ w'.cell? ⟨gb254, 0, none⟩ = some (.int .i64 70) ∧ w'.cell? ⟨gb254, 1, none⟩ = some (.int .i64 0) ∧ w'.cell? ⟨gb254, 2, none⟩ = some (.slice Ao16 y251.length co16)) (ds := []) #[O, O, O, O, O, O, O, O, O, O] (by kernel_rfl) rfl rfl ⟨(blk_cell BK250.out 0).trans rfl, (blk_cell BK250.out 1).trans rfl, (blk_cell BK250.out 2).trans rfl, (blk_cell BK250.out 3).trans rfl, (blk_cell BK254.out 0).trans rfl, (blk_cell BK254.out 1).trans rfl, (blk_cell BK254.out 2).trans rfl⟩ (fun hHeld => ?_); refine with_tabW twoslotlaw15_alive.tab5 twoslotlaw15_alive.bits5 (fun HT_ HW_ => ?_)
      generalize w30.drew = w31 at HO253 HO257 HO263 BK250 BK254 BK265 HB HR269 hHeld ⊢
      refine pu (i := 1) (N := some 34) (v := ?_) (a' := ?_) #[O, X, O, O, O, O, O, O, O, O] rfl rfl HT_ (by kernel_rfl) (fun _ _ _ h => h) ⟨by rfl, ?_⟩ ?_ ?_
      rotate_left
      · intro w'; go_simp; with_reducible rfl
      rotate_left
      · simp only [sP]
        rfl
      refine tu (i := 0) (N := some 33) (v := ?_) (a' := ?_) #[X, X, O, O, O, O, O, O, O, O] rfl rfl HT_ HW_ (by kernel_rfl) (fun _ _ _ h => h) ⟨by rfl, ?_⟩ hHeld ?_ ?_
      rotate_left
      · rintro w' ⟨s0, s1, s2, s3, s4, s5, s6⟩; go_simp; with_reducible rfl
      rotate_left
      · simp only [sP]
        rfl
      refine tu (i := 2) (N := some 35) (v := ?_) (a' := ?_) #[X, X, X, O, O, O, O, O, O, O] rfl rfl HT_ HW_ (by kernel_rfl) (fun _ _ _ h => h) ⟨by rfl, ?_⟩ hHeld ?_ ?_
      rotate_left
      · rintro w' ⟨s0, s1, s2, s3, s4, s5, s6⟩; go_simp; with_reducible rfl
      rotate_left
      · simp only [sP]
        rfl
      refine pu (i := 3) (N := some 36) (v := ?_) (a' := ?_) #[X, X, X, X, O, O, O, O, O, O] rfl rfl HT_ (by kernel_rfl) (fun _ _ _ h => h) ⟨by rfl, ?_⟩ ?_ ?_
      rotate_left
      · intro w'; go_simp; with_reducible rfl
      rotate_left
      · simp only [sP]
        rfl
      refine one_ (i := 4) (N := some 37) #[X, X, X, X, X, O, O, O, O, O] rfl rfl (one_of HT_.out (by kernel_rfl)) (by decide) (fun K hK => ?_)
      refine goes_ Try.func11 (by kernel_rfl) rfl #[.agg #[.int .i64 t246, .int .i64 t247, .int .i64 t248, .int .i64 t249], .slice Ao16 y266.length co16] (by rfl) rfl rfl (by (try simp only [sM]); first | done | rfl | (simp only [sT]; rfl)) ?_
      with_reducible refine (desc_Leaf.calls k t246 t247 t248 t249 _ _ y266 t270 t273 _ ?side1 ?side2 A5.out).mono ?_
      (case side1 => repeat (first | exact (by repeat (first | (with_reducible exact HR269.out) | (with_reducible refine Kd.C_alloc ?_ _) | (with_reducible refine Kd.C_drewN ?_ _) | (with_reducible refine Kd.C_drew ?_) | exact HR269.out)) | (with_reducible refine Kd.C_alloc ?_ _) | (with_reducible refine Kd.C_drewN ?_ _) | (with_reducible refine Kd.C_drew ?_)))
      (case side2 => exact HC269.out)
      rintro e w33 ⟨v271, rfl, ho0, hb⟩
      refine ⟨_, rfl, ?_⟩
      replace HO253 := Aside0.mk (Kd.R_below (sR HO253.out) hb); replace HO263 := Aside0.mk (Kd.R_below (sR HO263.out) hb); have HO272 := Aside0.mk (Kd.R_lower (Kd.R_new' ho0 (Kd.R_lt (sR HO257.out))) (below_size (by repeat (first | exact sH HB.out | refine sN (w := w) ?_ | with_reducible refine sG (w := w) ?_ (by assumption))))); replace HO257 := Aside0.mk (Kd.R_elder' (sR HO257.out) (Kd.R_base ho0) hb); replace BK250 := kB BK250 hb; replace BK254 := kB BK254 hb; replace BK265 := kB BK265 hb; replace HR269 := Aside0.mk (Kd.C_below (by repeat (first | (with_reducible exact HR269.out) | (with_reducible refine Kd.C_alloc ?_ _) | (with_reducible refine Kd.C_drewN ?_ _) | (with_reducible refine Kd.C_drew ?_) | exact HR269.out)) hb); replace HB := Aside0.mk (below_step (by repeat (first | exact sH HB.out | refine sN (w := w) ?_ | with_reducible refine sG (w := w) ?_ (by assumption))) hb)
      (try clear hb)
      (try clear hb2)
      (try clear hk)
      (try clear hi)
      (try clear ho0)
      refine hK.out _ _ ⟨(blk_cell BK250.out 0).trans rfl, (blk_cell BK250.out 1).trans rfl, (blk_cell BK250.out 2).trans rfl, (blk_cell BK250.out 3).trans rfl, (blk_cell BK254.out 0).trans rfl, (blk_cell BK254.out 1).trans rfl, (blk_cell BK254.out 2).trans rfl⟩ (fun hHeld => ?_)
      clear hK K
      refine norm_ (a' := ?_) ?_ ?_
      rotate_left
      · show Act.put _ (some 37) _ = _
        simp only [sP]
        rfl
      refine pu (i := 5) (N := some 32) (v := ?_) (a' := ?_) #[X, X, X, X, X, X, O, O, O, O] rfl rfl HT_ (by kernel_rfl) (fun _ _ _ h => h) ⟨by rfl, ?_⟩ ?_ ?_
      rotate_left
      · intro w'; go_simp; with_reducible rfl
      rotate_left
      · simp only [sP]
        rfl
      refine pu (i := 6) (N := some 38) (v := ?_) (a' := ?_) #[X, X, X, X, X, X, X, O, O, O] rfl rfl HT_ (by kernel_rfl) (fun _ _ _ h => h) ⟨by rfl, ?_⟩ ?_ ?_
      rotate_left
      · intro w'; go_simp; with_reducible rfl
      rotate_left
      · simp only [sP]
        rfl
      refine pu (i := 7) (N := some 39) (v := ?_) (a' := ?_) #[X, X, X, X, X, X, X, X, O, O] rfl rfl HT_ (by kernel_rfl) (fun _ _ _ h => h) ⟨by rfl, ?_⟩ ?_ ?_
      rotate_left
      · intro w'; go_simp; with_reducible rfl
      rotate_left
      · simp only [sP]
        rfl
      refine pu (i := 8) (N := some 7) (v := ?_) (a' := ?_) #[X, X, X, X, X, X, X, X, X, O] rfl rfl HT_ (by kernel_rfl) (fun _ _ _ h => h) ⟨by rfl, ?_⟩ ?_ ?_
      rotate_left
      · intro w'; go_simp; with_reducible rfl
      rotate_left
      · simp only [sP]
        rfl
      refine pu (i := 9) (N := some 8) (v := ?_) (a' := ?_) #[X, X, X, X, X, X, X, X, X, X] rfl rfl HT_ (by kernel_rfl) (fun _ _ _ h => h) ⟨by rfl, ?_⟩ ?_ ?_
      rotate_left
      · intro w'; go_simp; with_reducible rfl
      rotate_left
      · simp only [sP]
        rfl
      refine done_ (done_of HT_.out (by kernel_rfl)) ?_
      obtain ⟨hcz34_0, hcz34_1, hcz34_2, hcz34_3, hfz34_0, hfz34_1, hfz34_2, hfz34_3⟩ := cs4 BK250.out
      obtain ⟨Ao35, co35, eo35⟩ := Kd.R_slice HO272.out
      subst eo35
      try go_wp2_with (first | ((with_reducible refine gate_callee (f := 13) rfl ?_); refine goesL_ (some 43) rfl rfl Try.func13 (by kernel_rfl) rfl #[.agg #[.int .i64 t246, .int .i64 t247, .int .i64 t248, .int .i64 t249], .slice Ao35 t270.length co35, .int .i64 1] rfl (by (try simp only [sM]); first | done | rfl | (simp only [sT]; rfl)) ?_; (with_reducible refine (desc_Refs.calls k t246 t247 t248 t249 _ _ t270 1 t274 t277 _ ?side1 ?side2 A6.out).mono ?_); (case side1 => exact sC (Kd.R_reads' HO272.out).2.2); (case side2 => exact (Kd.R_reads' HO272.out).2.1); rintro e w36 ⟨v275, rfl, ho0, hb⟩; refine ⟨_, rfl, ?_⟩; replace HO257 := Aside0.mk (Kd.R_below (sR HO257.out) hb); replace HO272 := Aside0.mk (Kd.R_below (sR HO272.out) hb); have HO276 := Aside0.mk (Kd.R_lower (Kd.R_new' (Kd.R_new' ho0 (Kd.R_lt (sR HO253.out))) (Kd.R_lt (sR HO263.out))) (below_size (by repeat (first | exact sH HB.out | refine sN (w := w) ?_ | with_reducible refine sG (w := w) ?_ (by assumption))))); replace HO253 := Aside0.mk (Kd.R_elder' (sR HO253.out) (Kd.R_base ho0) hb); replace HO263 := Aside0.mk (Kd.R_elder' (sR HO263.out) (Kd.R_base ho0) hb); replace BK250 := kB BK250 hb; replace BK254 := kB BK254 hb; replace BK265 := kB BK265 hb; replace HR269 := Aside0.mk (Kd.C_below (by repeat (first | (with_reducible exact HR269.out) | (with_reducible refine Kd.C_alloc ?_ _) | (with_reducible refine Kd.C_drewN ?_ _) | (with_reducible refine Kd.C_drew ?_) | exact HR269.out)) hb); replace HB := Aside0.mk (below_step (by repeat (first | exact sH HB.out | refine sN (w := w) ?_ | with_reducible refine sG (w := w) ?_ (by assumption))) hb); (try clear hb); (try clear hb2); (try clear hk); (try clear hi); (try clear ho0); obtain ⟨hcz37_0, hcz37_1, hcz37_2, hcz37_3, hfz37_0, hfz37_1, hfz37_2, hfz37_3⟩ := cs4 BK250.out) | ((with_reducible refine gate_callee (f := 13) rfl ?_); refine goesL_ (some 49) rfl rfl Try.func13 (by kernel_rfl) rfl #[.agg #[.int .i64 t246, .int .i64 t247, .int .i64 t248, .int .i64 t249], .slice Ao35 t270.length co35, .int .i64 2] rfl (by (try simp only [sM]); first | done | rfl | (simp only [sT]; rfl)) ?_; (with_reducible refine (desc_Refs.calls k t246 t247 t248 t249 _ _ t270 2 t278 t281 _ ?side1 ?side2 A7.out).mono ?_); (case side1 => exact sC (Kd.R_reads' HO272.out).2.2); (case side2 => exact (Kd.R_reads' HO272.out).2.1); rintro e w38 ⟨v279, rfl, ho0, hb⟩; refine ⟨_, rfl, ?_⟩; replace HO257 := Aside0.mk (Kd.R_below (sR HO257.out) hb); replace HO272 := Aside0.mk (Kd.R_below (sR HO272.out) hb); have HO280 := Aside0.mk (Kd.R_lower (Kd.R_new' (Kd.R_new' (Kd.R_new' ho0 (Kd.R_lt (sR HO253.out))) (Kd.R_lt (sR HO263.out))) (Kd.R_lt (sR HO276.out))) (below_size (by repeat (first | exact sH HB.out | refine sN (w := w) ?_ | with_reducible refine sG (w := w) ?_ (by assumption))))); replace HO253 := Aside0.mk (Kd.R_elder' (sR HO253.out) (Kd.R_base ho0) hb); replace HO263 := Aside0.mk (Kd.R_elder' (sR HO263.out) (Kd.R_base ho0) hb); replace HO276 := Aside0.mk (Kd.R_elder' (sR HO276.out) (Kd.R_base ho0) hb); replace BK250 := kB BK250 hb; replace BK254 := kB BK254 hb; replace BK265 := kB BK265 hb; replace HR269 := Aside0.mk (Kd.C_below (by repeat (first | (with_reducible exact HR269.out) | (with_reducible refine Kd.C_alloc ?_ _) | (with_reducible refine Kd.C_drewN ?_ _) | (with_reducible refine Kd.C_drew ?_) | exact HR269.out)) hb); replace HB := Aside0.mk (below_step (by repeat (first | exact sH HB.out | refine sN (w := w) ?_ | with_reducible refine sG (w := w) ?_ (by assumption))) hb); (try clear hb); (try clear hb2); (try clear hk); (try clear hi); (try clear ho0)))
      replace HO253 := Aside0.mk (Kd.R_drew HO253.out); replace HO257 := Aside0.mk (Kd.R_drew HO257.out); replace HO263 := Aside0.mk (Kd.R_drew HO263.out); replace HO272 := Aside0.mk (Kd.R_drew HO272.out); replace HO276 := Aside0.mk (Kd.R_drew HO276.out); replace HO280 := Aside0.mk (Kd.R_drew HO280.out); replace BK250 := Aside0.mk (blk_drew BK250.out); replace BK254 := Aside0.mk (blk_drew BK254.out); replace BK265 := Aside0.mk (blk_drew BK265.out); replace HR269 := Aside0.mk (Kd.C_drew HR269.out); replace HB := Aside0.mk (below_drew1 HB.out)
      refine start_ (n := 9) (S := fun w' => w'.cell? ⟨gb250, 0, none⟩ = some (.int .i64 t246) ∧ w'.cell? ⟨gb250, 1, none⟩ = some (.int .i64 t247) ∧ w'.cell? ⟨gb250, 2, none⟩ = some (.int .i64 t248) ∧ w'.cell? ⟨gb250, 3, none⟩ = some (.int .i64 t249)) (ds := []) #[O, O, O, O, O, O, O, O, O] (by kernel_rfl) rfl rfl ⟨(blk_cell BK250.out 0).trans rfl, (blk_cell BK250.out 1).trans rfl, (blk_cell BK250.out 2).trans rfl, (blk_cell BK250.out 3).trans rfl⟩ (fun hHeld => ?_); refine with_tabW twoslotlaw15_alive.tab8 twoslotlaw15_alive.bits8 (fun HT_ HW_ => ?_)
      generalize w38.drew = w39 at HO253 HO257 HO263 HO272 HO276 HO280 BK250 BK254 BK265 HR269 HB hHeld ⊢
      refine tu (i := 0) (N := some 53) (v := ?_) (a' := ?_) #[X, O, O, O, O, O, O, O, O] rfl rfl HT_ HW_ (by kernel_rfl) (fun _ _ _ h => h) ⟨by rfl, ?_⟩ hHeld ?_ ?_
      rotate_left
      · rintro w' ⟨s0, s1, s2, s3⟩; go_simp; with_reducible rfl
      rotate_left
      · simp only [sP]
        rfl
      refine join_ (σ := Value × Value × Nat) 2 #[X, X, X, X, X, X, X, O, O] (fun s_ => [(54, s_.1), (55, .tuple #[.agg #[.int .i64 t285, .int .i64 t286, s_.2.1], .int .i64 t290]), (13, .pointer (some ⟨s_.2.2, 0, none⟩)), (52, .tuple #[.agg #[.int .i64 t285, .int .i64 t286, s_.2.1], .int .i64 t290]), (56, .agg #[.int .i64 t285, .int .i64 t286, s_.2.1]), (57, .int .i64 t290)]) (fun s_ w' => (w'.cell? ⟨gb250, 0, none⟩ = some (.int .i64 t246) ∧ w'.cell? ⟨gb250, 1, none⟩ = some (.int .i64 t247) ∧ w'.cell? ⟨gb250, 2, none⟩ = some (.int .i64 t248) ∧ w'.cell? ⟨gb250, 3, none⟩ = some (.int .i64 t249)) ∧ (Kd.R k27 27 w' w.heap.size (fun k_ => some k_ ≠ (.slice Ao29 t261.length co29 : Value).ownBlock ∧ some k_ ≠ (v275 : Value).ownBlock ∧ some k_ ≠ (v279 : Value).ownBlock ∧ some k_ ≠ (s_.2.1 : Value).ownBlock) (.slice Ao16 y251.length co16) y251) ∧ (Kd.R (Kd.int .u8) 5 w' w.heap.size (fun k_ => some k_ ≠ (.slice Ao35 t270.length co35 : Value).ownBlock ∧ some k_ ≠ (s_.1 : Value).ownBlock) (.slice Ao23 t255.length co23) t255) ∧ (Kd.R k27 27 w' w.heap.size (fun k_ => some k_ ≠ (.slice Ao16 y251.length co16 : Value).ownBlock ∧ some k_ ≠ (v275 : Value).ownBlock ∧ some k_ ≠ (v279 : Value).ownBlock ∧ some k_ ≠ (s_.2.1 : Value).ownBlock) (.slice Ao29 t261.length co29) t261) ∧ (Kd.R (Kd.int .u8) 5 w' w.heap.size (fun k_ => some k_ ≠ (.slice Ao23 t255.length co23 : Value).ownBlock ∧ some k_ ≠ (s_.1 : Value).ownBlock) (.slice Ao35 t270.length co35) t270) ∧ (Kd.R k27 27 w' w.heap.size (fun k_ => some k_ ≠ (.slice Ao16 y251.length co16 : Value).ownBlock ∧ some k_ ≠ (.slice Ao29 t261.length co29 : Value).ownBlock ∧ some k_ ≠ (v279 : Value).ownBlock ∧ some k_ ≠ (s_.2.1 : Value).ownBlock) v275 t274) ∧ (Kd.R k27 27 w' w.heap.size (fun k_ => some k_ ≠ (.slice Ao16 y251.length co16 : Value).ownBlock ∧ some k_ ≠ (.slice Ao29 t261.length co29 : Value).ownBlock ∧ some k_ ≠ (v275 : Value).ownBlock ∧ some k_ ≠ (s_.2.1 : Value).ownBlock) v279 t278) ∧ (Kd.R (Kd.int .u8) 5 w' w.heap.size (fun k_ => some k_ ≠ (.slice Ao23 t255.length co23 : Value).ownBlock ∧ some k_ ≠ (.slice Ao35 t270.length co35 : Value).ownBlock) s_.1 y282) ∧ (Kd.R k27 27 w' w.heap.size (fun k_ => some k_ ≠ (.slice Ao16 y251.length co16 : Value).ownBlock ∧ some k_ ≠ (.slice Ao29 t261.length co29 : Value).ownBlock ∧ some k_ ≠ (v275 : Value).ownBlock ∧ some k_ ≠ (v279 : Value).ownBlock) s_.2.1 t287) ∧ (w'.heap[gb250]? = some (.cells #[.int .i64 t246, .int .i64 t247, .int .i64 t248, .int .i64 t249] 24 (0, 0))) ∧ (w'.heap[gb254]? = some (.cells #[.int .i64 70, .int .i64 0, .slice Ao16 y251.length co16] 35 (0, 0))) ∧ (w'.heap[gb265]? = some (.cells #[.int .i64 t259, .int .i64 t260, .slice Ao29 t261.length co29] 35 (0, 0))) ∧ (w'.heap[s_.2.2]? = some (.cells #[.int .i64 0, .int .i64 0, .slice none 0 0] 35 (0, 0))) ∧ (w.heap.size ≤ s_.2.2) ∧ (w.heap.size ≤ s_.2.2) ∧ (gb250 ≠ s_.2.2) ∧ (s_.2.2 ≠ gb250) ∧ (gb254 ≠ s_.2.2) ∧ (s_.2.2 ≠ gb254) ∧ (gb265 ≠ s_.2.2) ∧ (s_.2.2 ≠ gb265) ∧ (Below w.heap.size w w')) ?_ ?_
      rotate_left
      · intro hCont
        refine two_ (i := 1) (j := 6) (Ni := some 54) (Nj := some 13) #[X, X, O, O, O, O, O, O, O] #[X, O, O, O, O, O, X, O, O] rfl rfl rfl rfl (two_of HT_.out (by kernel_rfl)) (by decide) (by decide) (fun K hK => ?_) (fun K hK => ?_)
        · skip
          refine Kd.R_make_step (Kd.int .u8) _ 5 (by rfl) (N := 54) rfl 29 _ _ rfl 63 rfl rfl Try.underlying29 (.int .u8 0) 1 info5 rfl (by decide) (by omega) 0 (ok := fun _ => True) (okp := fun _ => True) rfl (fun _ hk => hk) trivial (by omega) (by omega) (Below.refl _ _) (Nat.le_refl _) ?_
          intro v283 w40 ho41 hb hg_ hnew_
          clear hg_ hnew_
          (first | rw [← Ny282.out] at ho41 | (simp only [Int.reduceToNat] at ho41; rw [← Ny282.out] at ho41))
          replace HO253 := Aside0.mk (Kd.R_below (sR HO253.out) hb); replace HO263 := Aside0.mk (Kd.R_below (sR HO263.out) hb); replace HO276 := Aside0.mk (Kd.R_below (sR HO276.out) hb); replace HO280 := Aside0.mk (Kd.R_below (sR HO280.out) hb); have HO284 := Aside0.mk (Kd.R_lower (Kd.R_new' (Kd.R_new' ho41 (Kd.R_lt (sR HO257.out))) (Kd.R_lt (sR HO272.out))) (below_size (by repeat (first | exact sH HB.out | refine sN (w := w) ?_ | with_reducible refine sG (w := w) ?_ (by assumption))))); replace HO257 := Aside0.mk (Kd.R_elder' (sR HO257.out) (Kd.R_base ho41) hb); replace HO272 := Aside0.mk (Kd.R_elder' (sR HO272.out) (Kd.R_base ho41) hb); replace BK250 := kB BK250 hb; replace BK254 := kB BK254 hb; replace BK265 := kB BK265 hb; replace HR269 := Aside0.mk (Kd.C_below (by repeat (first | (with_reducible exact HR269.out) | (with_reducible refine Kd.C_alloc ?_ _) | (with_reducible refine Kd.C_drewN ?_ _) | (with_reducible refine Kd.C_drew ?_) | exact HR269.out)) hb); replace HB := Aside0.mk (below_step (by repeat (first | exact sH HB.out | refine sN (w := w) ?_ | with_reducible refine sG (w := w) ?_ (by assumption))) hb)
          clear hb ho41
          obtain ⟨Ao42, co42, eo42⟩ := Kd.R_slice HO284.out
          (first | subst eo42 | (injection eo42 with f1_ f2_ f3_; have f4_ := f1_.symm; have f5_ := f3_.symm; clear f1_ f2_ f3_; subst f4_; subst f5_))
          refine hK.out _ _ ⟨(blk_cell BK250.out 0).trans rfl, (blk_cell BK250.out 1).trans rfl, (blk_cell BK250.out 2).trans rfl, (blk_cell BK250.out 3).trans rfl⟩ (fun hHeld => ?_)
          clear hK K
          refine norm_ (a' := ?_) ?_ ?_
          rotate_left
          · show Act.put _ (some 54) _ = _
            simp only [sP]
            rfl
          refine two_ (i := 2) (j := 6) (Ni := some 55) (Nj := some 13) #[X, X, X, O, O, O, O, O, O] #[X, X, O, O, O, O, X, O, O] rfl rfl rfl rfl (two_of HT_.out (by kernel_rfl)) (by decide) (by decide) (fun K hK => ?_) (fun K hK => ?_)
          · skip
            refine goes_ Try.func15 (by kernel_rfl) rfl #[.agg #[.int .i64 t246, .int .i64 t247, .int .i64 t248, .int .i64 t249], .slice Ao42 y282.length co42] (by rfl) rfl rfl (by (try simp only [sM]); first | done | rfl | (simp only [sT]; rfl)) ?_
            with_reducible refine (desc_Parse.calls k t246 t247 t248 t249 _ _ y282 t285 t286 t287 t290 _ ?side1 ?side2 A9.out).mono ?_
            (case side1 => exact sC (Kd.R_reads' HO284.out).2.2)
            (case side2 => exact (Kd.R_reads' HO284.out).2.1)
            rintro e w43 ⟨v288, rfl, ho0, hb⟩
            refine ⟨_, rfl, ?_⟩
            replace HO257 := Aside0.mk (Kd.R_below (sR HO257.out) hb); replace HO272 := Aside0.mk (Kd.R_below (sR HO272.out) hb); replace HO284 := Aside0.mk (Kd.R_below (sR HO284.out) hb); have HO289 := Aside0.mk (Kd.R_lower (Kd.R_new' (Kd.R_new' (Kd.R_new' (Kd.R_new' ho0 (Kd.R_lt (sR HO253.out))) (Kd.R_lt (sR HO263.out))) (Kd.R_lt (sR HO276.out))) (Kd.R_lt (sR HO280.out))) (below_size (by repeat (first | exact sH HB.out | refine sN (w := w) ?_ | with_reducible refine sG (w := w) ?_ (by assumption))))); replace HO253 := Aside0.mk (Kd.R_elder' (sR HO253.out) (Kd.R_base ho0) hb); replace HO263 := Aside0.mk (Kd.R_elder' (sR HO263.out) (Kd.R_base ho0) hb); replace HO276 := Aside0.mk (Kd.R_elder' (sR HO276.out) (Kd.R_base ho0) hb); replace HO280 := Aside0.mk (Kd.R_elder' (sR HO280.out) (Kd.R_base ho0) hb); replace BK250 := kB BK250 hb; replace BK254 := kB BK254 hb; replace BK265 := kB BK265 hb; replace HR269 := Aside0.mk (Kd.C_below (by repeat (first | (with_reducible exact HR269.out) | (with_reducible refine Kd.C_alloc ?_ _) | (with_reducible refine Kd.C_drewN ?_ _) | (with_reducible refine Kd.C_drew ?_) | exact HR269.out)) hb); replace HB := Aside0.mk (below_step (by repeat (first | exact sH HB.out | refine sN (w := w) ?_ | with_reducible refine sG (w := w) ?_ (by assumption))) hb)
            (try clear hb)
            (try clear hb2)
            (try clear hk)
            (try clear hi)
            (try clear ho0)
            refine hK.out _ _ ⟨(blk_cell BK250.out 0).trans rfl, (blk_cell BK250.out 1).trans rfl, (blk_cell BK250.out 2).trans rfl, (blk_cell BK250.out 3).trans rfl⟩ (fun hHeld => ?_)
            clear hK K
            refine norm_ (a' := ?_) ?_ ?_
            rotate_left
            · show Act.put _ (some 55) _ = _
              simp only [sP]
              rfl
            refine pu (i := 3) (N := some 52) (v := ?_) (a' := ?_) #[X, X, X, X, O, O, O, O, O] rfl rfl HT_ (by kernel_rfl) (fun _ _ _ h => h) ⟨by rfl, ?_⟩ ?_ ?_
            rotate_left
            · intro w'; go_simp; with_reducible rfl
            rotate_left
            · simp only [sP]
              rfl
            refine pu (i := 4) (N := some 56) (v := ?_) (a' := ?_) #[X, X, X, X, X, O, O, O, O] rfl rfl HT_ (by kernel_rfl) (fun _ _ _ h => h) ⟨by rfl, ?_⟩ ?_ ?_
            rotate_left
            · intro w'; go_simp; with_reducible rfl
            rotate_left
            · simp only [sP]
              rfl
            refine pu (i := 5) (N := some 57) (v := ?_) (a' := ?_) #[X, X, X, X, X, X, O, O, O] rfl rfl HT_ (by kernel_rfl) (fun _ _ _ h => h) ⟨by rfl, ?_⟩ ?_ ?_
            rotate_left
            · intro w'; go_simp; with_reducible rfl
            rotate_left
            · simp only [sP]
              rfl
            refine one_ (i := 6) (N := some 13) #[X, X, X, X, X, X, X, O, O] rfl rfl (one_of HT_.out (by kernel_rfl)) (by decide) (fun K hK => ?_)
            refine box_step ?hg (N := 13) ?hd (cs := #[.int .i64 0, .int .i64 0, .slice none 0 0]) (t := 35) ?hr ?_; (case hd => rfl); (case hg => rfl); (case hr => first | (go_simp; done) | (go_simp; rfl))
            intro gb291 hg w44 hbox hb
            replace HO253 := Aside0.mk (Kd.R_below (sR HO253.out) hb); replace HO257 := Aside0.mk (Kd.R_below (sR HO257.out) hb); replace HO263 := Aside0.mk (Kd.R_below (sR HO263.out) hb); replace HO272 := Aside0.mk (Kd.R_below (sR HO272.out) hb); replace HO276 := Aside0.mk (Kd.R_below (sR HO276.out) hb); replace HO280 := Aside0.mk (Kd.R_below (sR HO280.out) hb); replace HO284 := Aside0.mk (Kd.R_below (sR HO284.out) hb); replace HO289 := Aside0.mk (Kd.R_below (sR HO289.out) hb); replace HR269 := Aside0.mk (Kd.C_below (by repeat (first | (with_reducible exact HR269.out) | (with_reducible refine Kd.C_alloc ?_ _) | (with_reducible refine Kd.C_drewN ?_ _) | (with_reducible refine Kd.C_drew ?_) | exact HR269.out)) hb); have BK291 := Aside0.mk (hbox); have GW291 := Aside0.mk ((by rw [hg]; exact (below_size (by repeat (first | exact sH HB.out | refine sN (w := w) ?_ | with_reducible refine sG (w := w) ?_ (by assumption)))) : w.heap.size ≤ gb291)); have GE291 := Aside0.mk ((by rw [hg]; exact (below_size (by repeat (first | exact sH HB.out | refine sN (w := w) ?_ | with_reducible refine sG (w := w) ?_ (by assumption)))) : w.heap.size ≤ gb291)); replace HB := Aside0.mk (below_step (by repeat (first | exact sH HB.out | refine sN (w := w) ?_ | with_reducible refine sG (w := w) ?_ (by assumption))) hb); have NB250_291 := Aside0.mk ((by rw [hg]; exact Nat.ne_of_lt (blk_lt (g := gb250) (o := .cells #[.int .i64 t246, .int .i64 t247, .int .i64 t248, .int .i64 t249] 24 (0, 0)) (by first | exact BK250.out | (refine sO ?_; exact BK250.out))) : gb250 ≠ gb291)); have NB291_250 := Aside0.mk ((by rw [hg]; exact Nat.ne_of_gt (blk_lt (g := gb250) (o := .cells #[.int .i64 t246, .int .i64 t247, .int .i64 t248, .int .i64 t249] 24 (0, 0)) (by first | exact BK250.out | (refine sO ?_; exact BK250.out))) : gb291 ≠ gb250)); replace BK250 := kB BK250 hb; have NB254_291 := Aside0.mk ((by rw [hg]; exact Nat.ne_of_lt (blk_lt (g := gb254) (o := .cells #[.int .i64 70, .int .i64 0, .slice Ao16 y251.length co16] 35 (0, 0)) (by first | exact BK254.out | (refine sO ?_; exact BK254.out))) : gb254 ≠ gb291)); have NB291_254 := Aside0.mk ((by rw [hg]; exact Nat.ne_of_gt (blk_lt (g := gb254) (o := .cells #[.int .i64 70, .int .i64 0, .slice Ao16 y251.length co16] 35 (0, 0)) (by first | exact BK254.out | (refine sO ?_; exact BK254.out))) : gb291 ≠ gb254)); replace BK254 := kB BK254 hb; have NB265_291 := Aside0.mk ((by rw [hg]; exact Nat.ne_of_lt (blk_lt (g := gb265) (o := .cells #[.int .i64 t259, .int .i64 t260, .slice Ao29 t261.length co29] 35 (0, 0)) (by first | exact BK265.out | (refine sO ?_; exact BK265.out))) : gb265 ≠ gb291)); have NB291_265 := Aside0.mk ((by rw [hg]; exact Nat.ne_of_gt (blk_lt (g := gb265) (o := .cells #[.int .i64 t259, .int .i64 t260, .slice Ao29 t261.length co29] 35 (0, 0)) (by first | exact BK265.out | (refine sO ?_; exact BK265.out))) : gb291 ≠ gb265)); replace BK265 := kB BK265 hb
            clear hb hbox hg
            refine hK.out _ _ ⟨(blk_cell BK250.out 0).trans rfl, (blk_cell BK250.out 1).trans rfl, (blk_cell BK250.out 2).trans rfl, (blk_cell BK250.out 3).trans rfl⟩ (fun hHeld => ?_)
            clear hK K
            refine norm_ (a' := ?_) ?_ ?_
            rotate_left
            · show Act.put _ (some 13) _ = _
              simp only [sP]
              rfl
            exact norm_ (by simp only [putAll, Act.put, List.setIfInBounds_toArray, List.set_cons_zero, List.set_cons_succ]) (hCont (.slice Ao42 y282.length co42, v288, gb291) _ ⟨hHeld, (by (with_reducible repeat (first | apply Kd.R_alloc | apply Kd.R_drewN | apply Kd.R_drew)); exact Kd.R_mono HO253.out (fun _ hk => ⟨hk.1.1.1, ⟨hk.1.1.2, ⟨hk.1.2, hk.2⟩⟩⟩)), (by (with_reducible repeat (first | apply Kd.R_alloc | apply Kd.R_drewN | apply Kd.R_drew)); exact Kd.R_mono HO257.out (fun _ hk => ⟨hk.1.2, hk.2⟩)), (by (with_reducible repeat (first | apply Kd.R_alloc | apply Kd.R_drewN | apply Kd.R_drew)); exact Kd.R_mono HO263.out (fun _ hk => ⟨hk.1.1.1, ⟨hk.1.1.2, ⟨hk.1.2, hk.2⟩⟩⟩)), (by (with_reducible repeat (first | apply Kd.R_alloc | apply Kd.R_drewN | apply Kd.R_drew)); exact Kd.R_mono HO272.out (fun _ hk => ⟨hk.1.2, hk.2⟩)), (by (with_reducible repeat (first | apply Kd.R_alloc | apply Kd.R_drewN | apply Kd.R_drew)); exact Kd.R_mono HO276.out (fun _ hk => ⟨hk.1.1.1.2, ⟨hk.1.1.2, ⟨hk.1.2, hk.2⟩⟩⟩)), (by (with_reducible repeat (first | apply Kd.R_alloc | apply Kd.R_drewN | apply Kd.R_drew)); exact Kd.R_mono HO280.out (fun _ hk => ⟨hk.1.1.1.2, ⟨hk.1.1.2, ⟨hk.1.2, hk.2⟩⟩⟩)), (by (with_reducible repeat (first | apply Kd.R_alloc | apply Kd.R_drewN | apply Kd.R_drew)); exact Kd.R_mono HO284.out (fun _ hk => ⟨hk.1.2, hk.2⟩)), (by (with_reducible repeat (first | apply Kd.R_alloc | apply Kd.R_drewN | apply Kd.R_drew)); exact Kd.R_mono HO289.out (fun _ hk => ⟨hk.1.1.1.2, ⟨hk.1.1.2, ⟨hk.1.2, hk.2⟩⟩⟩)), (by first | exact BK250.out | (refine sO ?_; exact BK250.out)), (by first | exact BK254.out | (refine sO ?_; exact BK254.out)), (by first | exact BK265.out | (refine sO ?_; exact BK265.out)), (by first | exact BK291.out | (refine sO ?_; exact BK291.out)), GW291.out, GE291.out, NB250_291.out, NB291_250.out, NB254_291.out, NB291_254.out, NB265_291.out, NB291_265.out, (by repeat (first | exact sH HB.out | refine sN (w := w) ?_ | with_reducible refine sG (w := w) ?_ (by assumption)))⟩)
          · skip
            refine box_step ?hg (N := 13) ?hd (cs := #[.int .i64 0, .int .i64 0, .slice none 0 0]) (t := 35) ?hr ?_; (case hd => rfl); (case hg => rfl); (case hr => first | (go_simp; done) | (go_simp; rfl))
            intro gb291 hg w42 hbox hb
            replace HO253 := Aside0.mk (Kd.R_below (sR HO253.out) hb); replace HO257 := Aside0.mk (Kd.R_below (sR HO257.out) hb); replace HO263 := Aside0.mk (Kd.R_below (sR HO263.out) hb); replace HO272 := Aside0.mk (Kd.R_below (sR HO272.out) hb); replace HO276 := Aside0.mk (Kd.R_below (sR HO276.out) hb); replace HO280 := Aside0.mk (Kd.R_below (sR HO280.out) hb); replace HO284 := Aside0.mk (Kd.R_below (sR HO284.out) hb); replace HR269 := Aside0.mk (Kd.C_below (by repeat (first | (with_reducible exact HR269.out) | (with_reducible refine Kd.C_alloc ?_ _) | (with_reducible refine Kd.C_drewN ?_ _) | (with_reducible refine Kd.C_drew ?_) | exact HR269.out)) hb); have BK291 := Aside0.mk (hbox); have GW291 := Aside0.mk ((by rw [hg]; exact (below_size (by repeat (first | exact sH HB.out | refine sN (w := w) ?_ | with_reducible refine sG (w := w) ?_ (by assumption)))) : w.heap.size ≤ gb291)); have GE291 := Aside0.mk ((by rw [hg]; exact (below_size (by repeat (first | exact sH HB.out | refine sN (w := w) ?_ | with_reducible refine sG (w := w) ?_ (by assumption)))) : w.heap.size ≤ gb291)); replace HB := Aside0.mk (below_step (by repeat (first | exact sH HB.out | refine sN (w := w) ?_ | with_reducible refine sG (w := w) ?_ (by assumption))) hb); have NB250_291 := Aside0.mk ((by rw [hg]; exact Nat.ne_of_lt (blk_lt (g := gb250) (o := .cells #[.int .i64 t246, .int .i64 t247, .int .i64 t248, .int .i64 t249] 24 (0, 0)) (by first | exact BK250.out | (refine sO ?_; exact BK250.out))) : gb250 ≠ gb291)); have NB291_250 := Aside0.mk ((by rw [hg]; exact Nat.ne_of_gt (blk_lt (g := gb250) (o := .cells #[.int .i64 t246, .int .i64 t247, .int .i64 t248, .int .i64 t249] 24 (0, 0)) (by first | exact BK250.out | (refine sO ?_; exact BK250.out))) : gb291 ≠ gb250)); replace BK250 := kB BK250 hb; have NB254_291 := Aside0.mk ((by rw [hg]; exact Nat.ne_of_lt (blk_lt (g := gb254) (o := .cells #[.int .i64 70, .int .i64 0, .slice Ao16 y251.length co16] 35 (0, 0)) (by first | exact BK254.out | (refine sO ?_; exact BK254.out))) : gb254 ≠ gb291)); have NB291_254 := Aside0.mk ((by rw [hg]; exact Nat.ne_of_gt (blk_lt (g := gb254) (o := .cells #[.int .i64 70, .int .i64 0, .slice Ao16 y251.length co16] 35 (0, 0)) (by first | exact BK254.out | (refine sO ?_; exact BK254.out))) : gb291 ≠ gb254)); replace BK254 := kB BK254 hb; have NB265_291 := Aside0.mk ((by rw [hg]; exact Nat.ne_of_lt (blk_lt (g := gb265) (o := .cells #[.int .i64 t259, .int .i64 t260, .slice Ao29 t261.length co29] 35 (0, 0)) (by first | exact BK265.out | (refine sO ?_; exact BK265.out))) : gb265 ≠ gb291)); have NB291_265 := Aside0.mk ((by rw [hg]; exact Nat.ne_of_gt (blk_lt (g := gb265) (o := .cells #[.int .i64 t259, .int .i64 t260, .slice Ao29 t261.length co29] 35 (0, 0)) (by first | exact BK265.out | (refine sO ?_; exact BK265.out))) : gb291 ≠ gb265)); replace BK265 := kB BK265 hb
            clear hb hbox hg
            obtain ⟨Ao43, co43, eo43⟩ := Kd.R_slice HO284.out
            (first | subst eo43 | (injection eo43 with f1_ f2_ f3_; have f4_ := f1_.symm; have f5_ := f3_.symm; clear f1_ f2_ f3_; subst f4_; subst f5_))
            refine hK.out _ _ ⟨(blk_cell BK250.out 0).trans rfl, (blk_cell BK250.out 1).trans rfl, (blk_cell BK250.out 2).trans rfl, (blk_cell BK250.out 3).trans rfl⟩ (fun hHeld => ?_)
            clear hK K
            refine norm_ (a' := ?_) ?_ ?_
            rotate_left
            · show Act.put _ (some 13) _ = _
              simp only [sP]
              rfl
            refine one_ (i := 2) (N := some 55) #[X, X, X, O, O, O, X, O, O] rfl rfl (one_of HT_.out (by kernel_rfl)) (by decide) (fun K hK => ?_)
            refine goes_ Try.func15 (by kernel_rfl) rfl #[.agg #[.int .i64 t246, .int .i64 t247, .int .i64 t248, .int .i64 t249], .slice Ao43 y282.length co43] (by rfl) rfl rfl (by (try simp only [sM]); first | done | rfl | (simp only [sT]; rfl)) ?_
            with_reducible refine (desc_Parse.calls k t246 t247 t248 t249 _ _ y282 t285 t286 t287 t290 _ ?side1 ?side2 A9.out).mono ?_
            (case side1 => exact sC (Kd.R_reads' HO284.out).2.2)
            (case side2 => exact (Kd.R_reads' HO284.out).2.1)
            rintro e w44 ⟨v288, rfl, ho0, hb⟩
            refine ⟨_, rfl, ?_⟩
            replace HO257 := Aside0.mk (Kd.R_below (sR HO257.out) hb); replace HO272 := Aside0.mk (Kd.R_below (sR HO272.out) hb); replace HO284 := Aside0.mk (Kd.R_below (sR HO284.out) hb); have HO289 := Aside0.mk (Kd.R_lower (Kd.R_new' (Kd.R_new' (Kd.R_new' (Kd.R_new' ho0 (Kd.R_lt (sR HO253.out))) (Kd.R_lt (sR HO263.out))) (Kd.R_lt (sR HO276.out))) (Kd.R_lt (sR HO280.out))) (below_size (by repeat (first | exact sH HB.out | refine sN (w := w) ?_ | with_reducible refine sG (w := w) ?_ (by assumption))))); replace HO253 := Aside0.mk (Kd.R_elder' (sR HO253.out) (Kd.R_base ho0) hb); replace HO263 := Aside0.mk (Kd.R_elder' (sR HO263.out) (Kd.R_base ho0) hb); replace HO276 := Aside0.mk (Kd.R_elder' (sR HO276.out) (Kd.R_base ho0) hb); replace HO280 := Aside0.mk (Kd.R_elder' (sR HO280.out) (Kd.R_base ho0) hb); replace BK250 := kB BK250 hb; replace BK254 := kB BK254 hb; replace BK265 := kB BK265 hb; replace HR269 := Aside0.mk (Kd.C_below (by repeat (first | (with_reducible exact HR269.out) | (with_reducible refine Kd.C_alloc ?_ _) | (with_reducible refine Kd.C_drewN ?_ _) | (with_reducible refine Kd.C_drew ?_) | exact HR269.out)) hb); replace BK291 := kB BK291 hb; replace HB := Aside0.mk (below_step (by repeat (first | exact sH HB.out | refine sN (w := w) ?_ | with_reducible refine sG (w := w) ?_ (by assumption))) hb)
            (try clear hb)
            (try clear hb2)
            (try clear hk)
            (try clear hi)
            (try clear ho0)
            refine hK.out _ _ ⟨(blk_cell BK250.out 0).trans rfl, (blk_cell BK250.out 1).trans rfl, (blk_cell BK250.out 2).trans rfl, (blk_cell BK250.out 3).trans rfl⟩ (fun hHeld => ?_)
            clear hK K
            refine norm_ (a' := ?_) ?_ ?_
            rotate_left
            · show Act.put _ (some 55) _ = _
              simp only [sP]
              rfl
            refine pu (i := 3) (N := some 52) (v := ?_) (a' := ?_) #[X, X, X, X, O, O, X, O, O] rfl rfl HT_ (by kernel_rfl) (fun _ _ _ h => h) ⟨by rfl, ?_⟩ ?_ ?_
            rotate_left
            · intro w'; go_simp; with_reducible rfl
            rotate_left
            · simp only [sP]
              rfl
            refine pu (i := 4) (N := some 56) (v := ?_) (a' := ?_) #[X, X, X, X, X, O, X, O, O] rfl rfl HT_ (by kernel_rfl) (fun _ _ _ h => h) ⟨by rfl, ?_⟩ ?_ ?_
            rotate_left
            · intro w'; go_simp; with_reducible rfl
            rotate_left
            · simp only [sP]
              rfl
            refine pu (i := 5) (N := some 57) (v := ?_) (a' := ?_) #[X, X, X, X, X, X, X, O, O] rfl rfl HT_ (by kernel_rfl) (fun _ _ _ h => h) ⟨by rfl, ?_⟩ ?_ ?_
            rotate_left
            · intro w'; go_simp; with_reducible rfl
            rotate_left
            · simp only [sP]
              rfl
            exact norm_ (by simp only [putAll, Act.put, List.setIfInBounds_toArray, List.set_cons_zero, List.set_cons_succ]) (hCont (.slice Ao43 y282.length co43, v288, gb291) _ ⟨hHeld, (by (with_reducible repeat (first | apply Kd.R_alloc | apply Kd.R_drewN | apply Kd.R_drew)); exact Kd.R_mono HO253.out (fun _ hk => ⟨hk.1.1.1, ⟨hk.1.1.2, ⟨hk.1.2, hk.2⟩⟩⟩)), (by (with_reducible repeat (first | apply Kd.R_alloc | apply Kd.R_drewN | apply Kd.R_drew)); exact Kd.R_mono HO257.out (fun _ hk => ⟨hk.1.2, hk.2⟩)), (by (with_reducible repeat (first | apply Kd.R_alloc | apply Kd.R_drewN | apply Kd.R_drew)); exact Kd.R_mono HO263.out (fun _ hk => ⟨hk.1.1.1, ⟨hk.1.1.2, ⟨hk.1.2, hk.2⟩⟩⟩)), (by (with_reducible repeat (first | apply Kd.R_alloc | apply Kd.R_drewN | apply Kd.R_drew)); exact Kd.R_mono HO272.out (fun _ hk => ⟨hk.1.2, hk.2⟩)), (by (with_reducible repeat (first | apply Kd.R_alloc | apply Kd.R_drewN | apply Kd.R_drew)); exact Kd.R_mono HO276.out (fun _ hk => ⟨hk.1.1.1.2, ⟨hk.1.1.2, ⟨hk.1.2, hk.2⟩⟩⟩)), (by (with_reducible repeat (first | apply Kd.R_alloc | apply Kd.R_drewN | apply Kd.R_drew)); exact Kd.R_mono HO280.out (fun _ hk => ⟨hk.1.1.1.2, ⟨hk.1.1.2, ⟨hk.1.2, hk.2⟩⟩⟩)), (by (with_reducible repeat (first | apply Kd.R_alloc | apply Kd.R_drewN | apply Kd.R_drew)); exact Kd.R_mono HO284.out (fun _ hk => ⟨hk.1.2, hk.2⟩)), (by (with_reducible repeat (first | apply Kd.R_alloc | apply Kd.R_drewN | apply Kd.R_drew)); exact Kd.R_mono HO289.out (fun _ hk => ⟨hk.1.1.1.2, ⟨hk.1.1.2, ⟨hk.1.2, hk.2⟩⟩⟩)), (by first | exact BK250.out | (refine sO ?_; exact BK250.out)), (by first | exact BK254.out | (refine sO ?_; exact BK254.out)), (by first | exact BK265.out | (refine sO ?_; exact BK265.out)), (by first | exact BK291.out | (refine sO ?_; exact BK291.out)), GW291.out, GE291.out, NB250_291.out, NB291_250.out, NB254_291.out, NB291_254.out, NB265_291.out, NB291_265.out, (by repeat (first | exact sH HB.out | refine sN (w := w) ?_ | with_reducible refine sG (w := w) ?_ (by assumption)))⟩)
        · skip
          refine box_step ?hg (N := 13) ?hd (cs := #[.int .i64 0, .int .i64 0, .slice none 0 0]) (t := 35) ?hr ?_; (case hd => rfl); (case hg => rfl); (case hr => first | (go_simp; done) | (go_simp; rfl))
          intro gb291 hg w40 hbox hb
          replace HO253 := Aside0.mk (Kd.R_below (sR HO253.out) hb); replace HO257 := Aside0.mk (Kd.R_below (sR HO257.out) hb); replace HO263 := Aside0.mk (Kd.R_below (sR HO263.out) hb); replace HO272 := Aside0.mk (Kd.R_below (sR HO272.out) hb); replace HO276 := Aside0.mk (Kd.R_below (sR HO276.out) hb); replace HO280 := Aside0.mk (Kd.R_below (sR HO280.out) hb); replace HR269 := Aside0.mk (Kd.C_below (by repeat (first | (with_reducible exact HR269.out) | (with_reducible refine Kd.C_alloc ?_ _) | (with_reducible refine Kd.C_drewN ?_ _) | (with_reducible refine Kd.C_drew ?_) | exact HR269.out)) hb); have BK291 := Aside0.mk (hbox); have GW291 := Aside0.mk ((by rw [hg]; exact (below_size (by repeat (first | exact sH HB.out | refine sN (w := w) ?_ | with_reducible refine sG (w := w) ?_ (by assumption)))) : w.heap.size ≤ gb291)); have GE291 := Aside0.mk ((by rw [hg]; exact (below_size (by repeat (first | exact sH HB.out | refine sN (w := w) ?_ | with_reducible refine sG (w := w) ?_ (by assumption)))) : w.heap.size ≤ gb291)); replace HB := Aside0.mk (below_step (by repeat (first | exact sH HB.out | refine sN (w := w) ?_ | with_reducible refine sG (w := w) ?_ (by assumption))) hb); have NB250_291 := Aside0.mk ((by rw [hg]; exact Nat.ne_of_lt (blk_lt (g := gb250) (o := .cells #[.int .i64 t246, .int .i64 t247, .int .i64 t248, .int .i64 t249] 24 (0, 0)) (by first | exact BK250.out | (refine sO ?_; exact BK250.out))) : gb250 ≠ gb291)); have NB291_250 := Aside0.mk ((by rw [hg]; exact Nat.ne_of_gt (blk_lt (g := gb250) (o := .cells #[.int .i64 t246, .int .i64 t247, .int .i64 t248, .int .i64 t249] 24 (0, 0)) (by first | exact BK250.out | (refine sO ?_; exact BK250.out))) : gb291 ≠ gb250)); replace BK250 := kB BK250 hb; have NB254_291 := Aside0.mk ((by rw [hg]; exact Nat.ne_of_lt (blk_lt (g := gb254) (o := .cells #[.int .i64 70, .int .i64 0, .slice Ao16 y251.length co16] 35 (0, 0)) (by first | exact BK254.out | (refine sO ?_; exact BK254.out))) : gb254 ≠ gb291)); have NB291_254 := Aside0.mk ((by rw [hg]; exact Nat.ne_of_gt (blk_lt (g := gb254) (o := .cells #[.int .i64 70, .int .i64 0, .slice Ao16 y251.length co16] 35 (0, 0)) (by first | exact BK254.out | (refine sO ?_; exact BK254.out))) : gb291 ≠ gb254)); replace BK254 := kB BK254 hb; have NB265_291 := Aside0.mk ((by rw [hg]; exact Nat.ne_of_lt (blk_lt (g := gb265) (o := .cells #[.int .i64 t259, .int .i64 t260, .slice Ao29 t261.length co29] 35 (0, 0)) (by first | exact BK265.out | (refine sO ?_; exact BK265.out))) : gb265 ≠ gb291)); have NB291_265 := Aside0.mk ((by rw [hg]; exact Nat.ne_of_gt (blk_lt (g := gb265) (o := .cells #[.int .i64 t259, .int .i64 t260, .slice Ao29 t261.length co29] 35 (0, 0)) (by first | exact BK265.out | (refine sO ?_; exact BK265.out))) : gb291 ≠ gb265)); replace BK265 := kB BK265 hb
          clear hb hbox hg
          refine hK.out _ _ ⟨(blk_cell BK250.out 0).trans rfl, (blk_cell BK250.out 1).trans rfl, (blk_cell BK250.out 2).trans rfl, (blk_cell BK250.out 3).trans rfl⟩ (fun hHeld => ?_)
          clear hK K
          refine norm_ (a' := ?_) ?_ ?_
          rotate_left
          · show Act.put _ (some 13) _ = _
            simp only [sP]
            rfl
          refine one_ (i := 1) (N := some 54) #[X, X, O, O, O, O, X, O, O] rfl rfl (one_of HT_.out (by kernel_rfl)) (by decide) (fun K hK => ?_)
          refine Kd.R_make_step (Kd.int .u8) _ 5 (by rfl) (N := 54) rfl 29 _ _ rfl 63 rfl rfl Try.underlying29 (.int .u8 0) 1 info5 rfl (by decide) (by omega) 0 (ok := fun _ => True) (okp := fun _ => True) rfl (fun _ hk => hk) trivial (by omega) (by omega) (Below.refl _ _) (Nat.le_refl _) ?_
          intro v283 w41 ho42 hb hg_ hnew_
          clear hg_ hnew_
          (first | rw [← Ny282.out] at ho42 | (simp only [Int.reduceToNat] at ho42; rw [← Ny282.out] at ho42))
          replace HO253 := Aside0.mk (Kd.R_below (sR HO253.out) hb); replace HO263 := Aside0.mk (Kd.R_below (sR HO263.out) hb); replace HO276 := Aside0.mk (Kd.R_below (sR HO276.out) hb); replace HO280 := Aside0.mk (Kd.R_below (sR HO280.out) hb); have HO284 := Aside0.mk (Kd.R_lower (Kd.R_new' (Kd.R_new' ho42 (Kd.R_lt (sR HO257.out))) (Kd.R_lt (sR HO272.out))) (below_size (by repeat (first | exact sH HB.out | refine sN (w := w) ?_ | with_reducible refine sG (w := w) ?_ (by assumption))))); replace HO257 := Aside0.mk (Kd.R_elder' (sR HO257.out) (Kd.R_base ho42) hb); replace HO272 := Aside0.mk (Kd.R_elder' (sR HO272.out) (Kd.R_base ho42) hb); replace BK250 := kB BK250 hb; replace BK254 := kB BK254 hb; replace BK265 := kB BK265 hb; replace HR269 := Aside0.mk (Kd.C_below (by repeat (first | (with_reducible exact HR269.out) | (with_reducible refine Kd.C_alloc ?_ _) | (with_reducible refine Kd.C_drewN ?_ _) | (with_reducible refine Kd.C_drew ?_) | exact HR269.out)) hb); replace BK291 := kB BK291 hb; replace HB := Aside0.mk (below_step (by repeat (first | exact sH HB.out | refine sN (w := w) ?_ | with_reducible refine sG (w := w) ?_ (by assumption))) hb)
          clear hb ho42
          obtain ⟨Ao43, co43, eo43⟩ := Kd.R_slice HO284.out
          (first | subst eo43 | (injection eo43 with f1_ f2_ f3_; have f4_ := f1_.symm; have f5_ := f3_.symm; clear f1_ f2_ f3_; subst f4_; subst f5_))
          refine hK.out _ _ ⟨(blk_cell BK250.out 0).trans rfl, (blk_cell BK250.out 1).trans rfl, (blk_cell BK250.out 2).trans rfl, (blk_cell BK250.out 3).trans rfl⟩ (fun hHeld => ?_)
          clear hK K
          refine norm_ (a' := ?_) ?_ ?_
          rotate_left
          · show Act.put _ (some 54) _ = _
            simp only [sP]
            rfl
          refine one_ (i := 2) (N := some 55) #[X, X, X, O, O, O, X, O, O] rfl rfl (one_of HT_.out (by kernel_rfl)) (by decide) (fun K hK => ?_)
          refine goes_ Try.func15 (by kernel_rfl) rfl #[.agg #[.int .i64 t246, .int .i64 t247, .int .i64 t248, .int .i64 t249], .slice Ao43 y282.length co43] (by rfl) rfl rfl (by (try simp only [sM]); first | done | rfl | (simp only [sT]; rfl)) ?_
          with_reducible refine (desc_Parse.calls k t246 t247 t248 t249 _ _ y282 t285 t286 t287 t290 _ ?side1 ?side2 A9.out).mono ?_
          (case side1 => exact sC (Kd.R_reads' HO284.out).2.2)
          (case side2 => exact (Kd.R_reads' HO284.out).2.1)
          rintro e w44 ⟨v288, rfl, ho0, hb⟩
          refine ⟨_, rfl, ?_⟩
          replace HO257 := Aside0.mk (Kd.R_below (sR HO257.out) hb); replace HO272 := Aside0.mk (Kd.R_below (sR HO272.out) hb); replace HO284 := Aside0.mk (Kd.R_below (sR HO284.out) hb); have HO289 := Aside0.mk (Kd.R_lower (Kd.R_new' (Kd.R_new' (Kd.R_new' (Kd.R_new' ho0 (Kd.R_lt (sR HO253.out))) (Kd.R_lt (sR HO263.out))) (Kd.R_lt (sR HO276.out))) (Kd.R_lt (sR HO280.out))) (below_size (by repeat (first | exact sH HB.out | refine sN (w := w) ?_ | with_reducible refine sG (w := w) ?_ (by assumption))))); replace HO253 := Aside0.mk (Kd.R_elder' (sR HO253.out) (Kd.R_base ho0) hb); replace HO263 := Aside0.mk (Kd.R_elder' (sR HO263.out) (Kd.R_base ho0) hb); replace HO276 := Aside0.mk (Kd.R_elder' (sR HO276.out) (Kd.R_base ho0) hb); replace HO280 := Aside0.mk (Kd.R_elder' (sR HO280.out) (Kd.R_base ho0) hb); replace BK250 := kB BK250 hb; replace BK254 := kB BK254 hb; replace BK265 := kB BK265 hb; replace HR269 := Aside0.mk (Kd.C_below (by repeat (first | (with_reducible exact HR269.out) | (with_reducible refine Kd.C_alloc ?_ _) | (with_reducible refine Kd.C_drewN ?_ _) | (with_reducible refine Kd.C_drew ?_) | exact HR269.out)) hb); replace BK291 := kB BK291 hb; replace HB := Aside0.mk (below_step (by repeat (first | exact sH HB.out | refine sN (w := w) ?_ | with_reducible refine sG (w := w) ?_ (by assumption))) hb)
          (try clear hb)
          (try clear hb2)
          (try clear hk)
          (try clear hi)
          (try clear ho0)
          refine hK.out _ _ ⟨(blk_cell BK250.out 0).trans rfl, (blk_cell BK250.out 1).trans rfl, (blk_cell BK250.out 2).trans rfl, (blk_cell BK250.out 3).trans rfl⟩ (fun hHeld => ?_)
          clear hK K
          refine norm_ (a' := ?_) ?_ ?_
          rotate_left
          · show Act.put _ (some 55) _ = _
            simp only [sP]
            rfl
          refine pu (i := 3) (N := some 52) (v := ?_) (a' := ?_) #[X, X, X, X, O, O, X, O, O] rfl rfl HT_ (by kernel_rfl) (fun _ _ _ h => h) ⟨by rfl, ?_⟩ ?_ ?_
          rotate_left
          · intro w'; go_simp; with_reducible rfl
          rotate_left
          · simp only [sP]
            rfl
          refine pu (i := 4) (N := some 56) (v := ?_) (a' := ?_) #[X, X, X, X, X, O, X, O, O] rfl rfl HT_ (by kernel_rfl) (fun _ _ _ h => h) ⟨by rfl, ?_⟩ ?_ ?_
          rotate_left
          · intro w'; go_simp; with_reducible rfl
          rotate_left
          · simp only [sP]
            rfl
          refine pu (i := 5) (N := some 57) (v := ?_) (a' := ?_) #[X, X, X, X, X, X, X, O, O] rfl rfl HT_ (by kernel_rfl) (fun _ _ _ h => h) ⟨by rfl, ?_⟩ ?_ ?_
          rotate_left
          · intro w'; go_simp; with_reducible rfl
          rotate_left
          · simp only [sP]
            rfl
          exact norm_ (by simp only [putAll, Act.put, List.setIfInBounds_toArray, List.set_cons_zero, List.set_cons_succ]) (hCont (.slice Ao43 y282.length co43, v288, gb291) _ ⟨hHeld, (by (with_reducible repeat (first | apply Kd.R_alloc | apply Kd.R_drewN | apply Kd.R_drew)); exact Kd.R_mono HO253.out (fun _ hk => ⟨hk.1.1.1, ⟨hk.1.1.2, ⟨hk.1.2, hk.2⟩⟩⟩)), (by (with_reducible repeat (first | apply Kd.R_alloc | apply Kd.R_drewN | apply Kd.R_drew)); exact Kd.R_mono HO257.out (fun _ hk => ⟨hk.1.2, hk.2⟩)), (by (with_reducible repeat (first | apply Kd.R_alloc | apply Kd.R_drewN | apply Kd.R_drew)); exact Kd.R_mono HO263.out (fun _ hk => ⟨hk.1.1.1, ⟨hk.1.1.2, ⟨hk.1.2, hk.2⟩⟩⟩)), (by (with_reducible repeat (first | apply Kd.R_alloc | apply Kd.R_drewN | apply Kd.R_drew)); exact Kd.R_mono HO272.out (fun _ hk => ⟨hk.1.2, hk.2⟩)), (by (with_reducible repeat (first | apply Kd.R_alloc | apply Kd.R_drewN | apply Kd.R_drew)); exact Kd.R_mono HO276.out (fun _ hk => ⟨hk.1.1.1.2, ⟨hk.1.1.2, ⟨hk.1.2, hk.2⟩⟩⟩)), (by (with_reducible repeat (first | apply Kd.R_alloc | apply Kd.R_drewN | apply Kd.R_drew)); exact Kd.R_mono HO280.out (fun _ hk => ⟨hk.1.1.1.2, ⟨hk.1.1.2, ⟨hk.1.2, hk.2⟩⟩⟩)), (by (with_reducible repeat (first | apply Kd.R_alloc | apply Kd.R_drewN | apply Kd.R_drew)); exact Kd.R_mono HO284.out (fun _ hk => ⟨hk.1.2, hk.2⟩)), (by (with_reducible repeat (first | apply Kd.R_alloc | apply Kd.R_drewN | apply Kd.R_drew)); exact Kd.R_mono HO289.out (fun _ hk => ⟨hk.1.1.1.2, ⟨hk.1.1.2, ⟨hk.1.2, hk.2⟩⟩⟩)), (by first | exact BK250.out | (refine sO ?_; exact BK250.out)), (by first | exact BK254.out | (refine sO ?_; exact BK254.out)), (by first | exact BK265.out | (refine sO ?_; exact BK265.out)), (by first | exact BK291.out | (refine sO ?_; exact BK291.out)), GW291.out, GE291.out, NB250_291.out, NB291_250.out, NB254_291.out, NB291_254.out, NB265_291.out, NB291_265.out, (by repeat (first | exact sH HB.out | refine sN (w := w) ?_ | with_reducible refine sG (w := w) ?_ (by assumption)))⟩)
      rintro ⟨v283, v288, gb291⟩ w45 ⟨hS_, h0_, h1_, h2_, h3_, h4_, h5_, h6_, h7_, h8_, h9_, h10_, h11_, h12_, h13_, h14_, h15_, h16_, h17_, h18_, h19_, h20_⟩
      have n0_ : Aside0 (Kd.R k27 27 w45 w.heap.size (fun k_ => some k_ ≠ (.slice Ao29 t261.length co29 : Value).ownBlock ∧ some k_ ≠ (v275 : Value).ownBlock ∧ some k_ ≠ (v279 : Value).ownBlock ∧ some k_ ≠ (v288 : Value).ownBlock) (.slice Ao16 y251.length co16) y251) := ⟨h0_⟩
      have n1_ : Aside0 (Kd.R (Kd.int .u8) 5 w45 w.heap.size (fun k_ => some k_ ≠ (.slice Ao35 t270.length co35 : Value).ownBlock ∧ some k_ ≠ (v283 : Value).ownBlock) (.slice Ao23 t255.length co23) t255) := ⟨h1_⟩
      have n2_ : Aside0 (Kd.R k27 27 w45 w.heap.size (fun k_ => some k_ ≠ (.slice Ao16 y251.length co16 : Value).ownBlock ∧ some k_ ≠ (v275 : Value).ownBlock ∧ some k_ ≠ (v279 : Value).ownBlock ∧ some k_ ≠ (v288 : Value).ownBlock) (.slice Ao29 t261.length co29) t261) := ⟨h2_⟩
      have n3_ : Aside0 (Kd.R (Kd.int .u8) 5 w45 w.heap.size (fun k_ => some k_ ≠ (.slice Ao23 t255.length co23 : Value).ownBlock ∧ some k_ ≠ (v283 : Value).ownBlock) (.slice Ao35 t270.length co35) t270) := ⟨h3_⟩
      have n4_ : Aside0 (Kd.R k27 27 w45 w.heap.size (fun k_ => some k_ ≠ (.slice Ao16 y251.length co16 : Value).ownBlock ∧ some k_ ≠ (.slice Ao29 t261.length co29 : Value).ownBlock ∧ some k_ ≠ (v279 : Value).ownBlock ∧ some k_ ≠ (v288 : Value).ownBlock) v275 t274) := ⟨h4_⟩
      have n5_ : Aside0 (Kd.R k27 27 w45 w.heap.size (fun k_ => some k_ ≠ (.slice Ao16 y251.length co16 : Value).ownBlock ∧ some k_ ≠ (.slice Ao29 t261.length co29 : Value).ownBlock ∧ some k_ ≠ (v275 : Value).ownBlock ∧ some k_ ≠ (v288 : Value).ownBlock) v279 t278) := ⟨h5_⟩
      have n6_ : Aside0 (Kd.R (Kd.int .u8) 5 w45 w.heap.size (fun k_ => some k_ ≠ (.slice Ao23 t255.length co23 : Value).ownBlock ∧ some k_ ≠ (.slice Ao35 t270.length co35 : Value).ownBlock) v283 y282) := ⟨h6_⟩
      have n7_ : Aside0 (Kd.R k27 27 w45 w.heap.size (fun k_ => some k_ ≠ (.slice Ao16 y251.length co16 : Value).ownBlock ∧ some k_ ≠ (.slice Ao29 t261.length co29 : Value).ownBlock ∧ some k_ ≠ (v275 : Value).ownBlock ∧ some k_ ≠ (v279 : Value).ownBlock) v288 t287) := ⟨h7_⟩
      have n8_ : Aside0 (w45.heap[gb250]? = some (.cells #[.int .i64 t246, .int .i64 t247, .int .i64 t248, .int .i64 t249] 24 (0, 0))) := ⟨h8_⟩
      have n9_ : Aside0 (w45.heap[gb254]? = some (.cells #[.int .i64 70, .int .i64 0, .slice Ao16 y251.length co16] 35 (0, 0))) := ⟨h9_⟩
      have n10_ : Aside0 (w45.heap[gb265]? = some (.cells #[.int .i64 t259, .int .i64 t260, .slice Ao29 t261.length co29] 35 (0, 0))) := ⟨h10_⟩
      have n11_ : Aside0 (w45.heap[gb291]? = some (.cells #[.int .i64 0, .int .i64 0, .slice none 0 0] 35 (0, 0))) := ⟨h11_⟩
      have n12_ : Aside0 (w.heap.size ≤ gb291) := ⟨h12_⟩
      have n13_ : Aside0 (w.heap.size ≤ gb291) := ⟨h13_⟩
      have n14_ : Aside0 (gb250 ≠ gb291) := ⟨h14_⟩
      have n15_ : Aside0 (gb291 ≠ gb250) := ⟨h15_⟩
      have n16_ : Aside0 (gb254 ≠ gb291) := ⟨h16_⟩
      have n17_ : Aside0 (gb291 ≠ gb254) := ⟨h17_⟩
      have n18_ : Aside0 (gb265 ≠ gb291) := ⟨h18_⟩
      have n19_ : Aside0 (gb291 ≠ gb265) := ⟨h19_⟩
      have n20_ : Aside0 (Below w.heap.size w w45) := ⟨h20_⟩
      clear HO253; clear HO257; clear HO263; clear HO272; clear HO276; clear HO280; clear BK250; clear BK254; clear BK265; clear HR269; clear HB
      clear h0_ h1_ h2_ h3_ h4_ h5_ h6_ h7_ h8_ h9_ h10_ h11_ h12_ h13_ h14_ h15_ h16_ h17_ h18_ h19_ h20_
      have HO253 := n0_; have HO257 := n1_; have HO263 := n2_; have HO272 := n3_; have HO276 := n4_; have HO280 := n5_; have HO284 := n6_; have HO289 := n7_; have BK250 := n8_; have BK254 := n9_; have BK265 := n10_; have BK291 := n11_; have GW291 := n12_; have GE291 := n13_; have NB250_291 := n14_; have NB291_250 := n15_; have NB254_291 := n16_; have NB291_254 := n17_; have NB265_291 := n18_; have NB291_265 := n19_; have HB := n20_; clear n0_ n1_ n2_ n3_ n4_ n5_ n6_ n7_ n8_ n9_ n10_ n11_ n12_ n13_ n14_ n15_ n16_ n17_ n18_ n19_ n20_
      have hHeld : w45.cell? ⟨gb250, 0, none⟩ = some (.int .i64 t246) ∧ w45.cell? ⟨gb250, 1, none⟩ = some (.int .i64 t247) ∧ w45.cell? ⟨gb250, 2, none⟩ = some (.int .i64 t248) ∧ w45.cell? ⟨gb250, 3, none⟩ = some (.int .i64 t249) := hS_
      obtain ⟨Ao48, co48, eo48⟩ := Kd.R_slice HO289.out
      (first | subst eo48 | (injection eo48 with f1_ f2_ f3_; have f4_ := f1_.symm; have f5_ := f3_.symm; clear f1_ f2_ f3_; subst f4_; subst f5_))
      refine norm_ (a' := ?_) ?_ ?_
      rotate_left
      · simp only [putAll, Act.put, List.setIfInBounds_toArray, List.set_cons_zero, List.set_cons_succ]
        rfl
      refine one_ (i := 7) (N := none) #[X, X, X, X, X, X, X, X, O] rfl rfl (one_of HT_.out (by kernel_rfl)) (by decide) (fun K hK => ?_)
      have hs46 : w45.cell? ⟨gb291, 0, none⟩ = some (.int .i64 0) := (blk_cell BK291.out 0).trans rfl
      have hfs46 := blk_frozen BK291.out 0
      have hns46_0 := NB250_291.out
      have hns46_1 := NB254_291.out
      have hns46_2 := NB265_291.out
      have hms46_0 := NB291_250.out
      have hms46_1 := NB291_254.out
      have hms46_2 := NB291_265.out
      have hs47 : w45.cell? ⟨gb291, 1, none⟩ = some (.int .i64 0) := (blk_cell BK291.out 1).trans rfl
      have hfs47 := blk_frozen BK291.out 1
      have hns47_0 := NB250_291.out
      have hns47_1 := NB254_291.out
      have hns47_2 := NB265_291.out
      have hms47_0 := NB291_250.out
      have hms47_1 := NB291_254.out
      have hms47_2 := NB291_265.out
      have hs49 : w45.cell? ⟨gb291, 2, none⟩ = some (.slice none 0 0) := (blk_cell BK291.out 2).trans rfl
      have hfs49 := blk_frozen BK291.out 2
      have hns49_0 := NB250_291.out
      have hns49_1 := NB254_291.out
      have hns49_2 := NB265_291.out
      have hms49_0 := NB291_250.out
      have hms49_1 := NB291_254.out
      have hms49_2 := NB291_265.out
      refine skip_ (w1 := ?_) (by rfl) rfl ?_ ?_
      rotate_left
      · go_simp
        rfl
      refine hK.out _ _ ⟨((cell_far (p := ⟨gb291, _, none⟩) NB250_291.out _).trans (((cell_far (p := ⟨gb291, _, none⟩) NB250_291.out _).trans (((cell_far (p := ⟨gb291, _, none⟩) NB250_291.out _).trans (hHeld.1)))))), ((cell_far (p := ⟨gb291, _, none⟩) NB250_291.out _).trans (((cell_far (p := ⟨gb291, _, none⟩) NB250_291.out _).trans (((cell_far (p := ⟨gb291, _, none⟩) NB250_291.out _).trans (hHeld.2.1)))))), ((cell_far (p := ⟨gb291, _, none⟩) NB250_291.out _).trans (((cell_far (p := ⟨gb291, _, none⟩) NB250_291.out _).trans (((cell_far (p := ⟨gb291, _, none⟩) NB250_291.out _).trans (hHeld.2.2.1)))))), ((cell_far (p := ⟨gb291, _, none⟩) NB250_291.out _).trans (((cell_far (p := ⟨gb291, _, none⟩) NB250_291.out _).trans (((cell_far (p := ⟨gb291, _, none⟩) NB250_291.out _).trans (hHeld.2.2.2))))))⟩ (fun hHeld => ?_)
      clear hK K
      refine pu (i := 8) (N := some 14) (v := ?_) (a' := ?_) #[X, X, X, X, X, X, X, X, X] rfl rfl HT_ (by kernel_rfl) (fun _ _ _ h => h) ⟨by rfl, ?_⟩ ?_ ?_
      rotate_left
      · intro w'; go_simp; with_reducible rfl
      rotate_left
      · simp only [sP]
        rfl
      refine done_ (done_of HT_.out (by kernel_rfl)) ?_
      go_upto_region 9 with (fail)
      go_cut [94] (fun v94 wc => ∃ (kq : Nat) (x94_9 : Bool), v94 = .bool x94_9 ∧ Aside0 (twoslotlaw15_alive.j0 kq t255 t270 t274 x94_9 t246 t247 t248 t249 70 0 y251 t259 t260 t261 = some r) ∧ Aside0 (kq ≤ k) ∧ Aside0 (Kd.R (Kd.int .u8) 5 wc w.heap.size (fun k_ => some k_ ≠ ((.slice Ao35 t270.length co35) : Value).ownBlock) (.slice Ao23 t255.length co23) t255) ∧ Aside0 (Kd.R (Kd.int .u8) 5 wc w.heap.size (fun k_ => some k_ ≠ ((.slice Ao23 t255.length co23) : Value).ownBlock) (.slice Ao35 t270.length co35) t270) ∧ Aside0 (Kd.R k27 27 wc w.heap.size (fun k_ => some k_ ≠ ((.slice Ao16 y251.length co16) : Value).ownBlock ∧ some k_ ≠ ((.slice Ao29 t261.length co29) : Value).ownBlock ∧ some k_ ≠ ((.slice Ao48 t287.length co48) : Value).ownBlock) v275 t274) ∧ Aside0 (Kd.R k27 27 wc w.heap.size (fun k_ => some k_ ≠ (v275 : Value).ownBlock ∧ some k_ ≠ ((.slice Ao29 t261.length co29) : Value).ownBlock ∧ some k_ ≠ ((.slice Ao48 t287.length co48) : Value).ownBlock) (.slice Ao16 y251.length co16) y251) ∧ Aside0 (Kd.R k27 27 wc w.heap.size (fun k_ => some k_ ≠ (v275 : Value).ownBlock ∧ some k_ ≠ ((.slice Ao16 y251.length co16) : Value).ownBlock ∧ some k_ ≠ ((.slice Ao48 t287.length co48) : Value).ownBlock) (.slice Ao29 t261.length co29) t261) ∧ Aside0 (Kd.R k27 27 wc w.heap.size (fun k_ => some k_ ≠ (v275 : Value).ownBlock ∧ some k_ ≠ ((.slice Ao16 y251.length co16) : Value).ownBlock ∧ some k_ ≠ ((.slice Ao29 t261.length co29) : Value).ownBlock) (.slice Ao48 t287.length co48) t287) ∧ Aside0 (wc.heap[gb250]? = some (.cells #[.int .i64 t246, .int .i64 t247, .int .i64 t248, .int .i64 t249] 24 (0, 0))) ∧ Aside0 (wc.heap[gb254]? = some (.cells #[.int .i64 70, .int .i64 0, (.slice Ao16 y251.length co16)] 35 (0, 0))) ∧ Aside0 (wc.heap[gb265]? = some (.cells #[.int .i64 t259, .int .i64 t260, (.slice Ao29 t261.length co29)] 35 (0, 0))) ∧ Aside0 (wc.heap[gb291]? = some (.cells #[.int .i64 t285, .int .i64 t286, (.slice Ao48 t287.length co48)] 35 (0, 0))) ∧ Aside0 (Below w.heap.size w wc))
      case first =>
        have H := HC10.out
        clear HC10
        by_cases c50 : t258 = 0
        · rw [if_pos c50] at H
          have c50b0 : (t258 == 0) = true := beq_iff_eq.mpr c50
          have c50b1 : (t258 != 0) = false := bne_eq_false_iff_eq.mpr c50
          clear c50
          (first | rw [c50b0] | (simp only [i64_w, i32_w]; rw [c50b0]) | skip)
          by_cases c51 : t264 = 0
          · rw [if_pos c51] at H
            have c51b0 : (t264 == 0) = true := beq_iff_eq.mpr c51
            have c51b1 : (t264 != 0) = false := bne_eq_false_iff_eq.mpr c51
            clear c51
            by_cases c52 : t273 = 0
            · rw [if_pos c52] at H
              have c52b0 : (t273 == 0) = true := beq_iff_eq.mpr c52
              have c52b1 : (t273 != 0) = false := bne_eq_false_iff_eq.mpr c52
              clear c52
              by_cases c53 : t277 = 0
              · rw [if_pos c53] at H
                have c53b0 : (t277 == 0) = true := beq_iff_eq.mpr c53
                have c53b1 : (t277 != 0) = false := bne_eq_false_iff_eq.mpr c53
                clear c53
                by_cases c54 : t281 = 150
                · rw [if_pos c54] at H
                  have c54b0 : (t281 == 150) = true := beq_iff_eq.mpr c54
                  have c54b1 : (t281 != 150) = false := bne_eq_false_iff_eq.mpr c54
                  clear c54
                  by_cases c55 : t290 = 20
                  · rw [if_pos c55] at H
                    have c55b0 : (t290 == 20) = true := beq_iff_eq.mpr c55
                    have c55b1 : (t290 != 20) = false := bne_eq_false_iff_eq.mpr c55
                    clear c55
                    by_cases c56 : (t255.length : Int) = 64
                    · rw [if_pos c56] at H
                      have c56b0 : ((t255.length : Int) == 64) = true := beq_iff_eq.mpr c56
                      have c56b1 : ((t255.length : Int) != 64) = false := bne_eq_false_iff_eq.mpr c56
                      clear c56
                      by_cases c57 : (t270.length : Int) = 64
                      · rw [if_pos c57] at H
                        have c57b0 : ((t270.length : Int) == 64) = true := beq_iff_eq.mpr c57
                        have c57b1 : ((t270.length : Int) != 64) = false := bne_eq_false_iff_eq.mpr c57
                        clear c57
                        have H' := Aside0.mk H
                        clear H
                        obtain ⟨Ao58, co58, eo58⟩ := Kd.R_slice HO276.out
                        subst eo58
                        go_wp2
                        go_meet
                        case rel => exact ⟨_, (((t274.length : Int) != 1)), (by first | rfl | (simp; done) | (simp [*]; done)), H', ⟨by first | omega | exact Nat.le_refl _⟩, ⟨by (with_reducible repeat (first | apply Kd.R_alloc | apply Kd.R_drewN | apply Kd.R_drew)); exact Kd.R_mono (Kd.R_far (p := ⟨gb291, 2, none⟩) (Kd.R_far (p := ⟨gb291, 1, none⟩) (Kd.R_far (p := ⟨gb291, 0, none⟩) (Kd.R_types HO257.out BK291.out (by decide)) (fun _ hk => hk.2) (.int .i64 t285)) (fun _ hk => hk.2) (.int .i64 t286)) (fun _ hk => hk.2) (.slice Ao48 t287.length co48)) (fun _ hk => hk.1.1)⟩, ⟨by (with_reducible repeat (first | apply Kd.R_alloc | apply Kd.R_drewN | apply Kd.R_drew)); exact Kd.R_mono (Kd.R_far (p := ⟨gb291, 2, none⟩) (Kd.R_far (p := ⟨gb291, 1, none⟩) (Kd.R_far (p := ⟨gb291, 0, none⟩) (Kd.R_types HO272.out BK291.out (by decide)) (fun _ hk => hk.2) (.int .i64 t285)) (fun _ hk => hk.2) (.int .i64 t286)) (fun _ hk => hk.2) (.slice Ao48 t287.length co48)) (fun _ hk => hk.1.1)⟩, ⟨by (with_reducible repeat (first | apply Kd.R_alloc | apply Kd.R_drewN | apply Kd.R_drew)); exact Kd.R_mono (Kd.R_far (p := ⟨gb291, 2, none⟩) (Kd.R_far (p := ⟨gb291, 1, none⟩) (Kd.R_far (p := ⟨gb291, 0, none⟩) (Kd.R_types HO276.out BK291.out (by decide)) (fun _ hk => hk.2) (.int .i64 t285)) (fun _ hk => hk.2) (.int .i64 t286)) (fun _ hk => hk.2) (.slice Ao48 t287.length co48)) (fun _ hk => ⟨hk.1.1, ⟨hk.1.2.1, hk.1.2.2.2⟩⟩)⟩, ⟨by (with_reducible repeat (first | apply Kd.R_alloc | apply Kd.R_drewN | apply Kd.R_drew)); exact Kd.R_mono (Kd.R_far (p := ⟨gb291, 2, none⟩) (Kd.R_far (p := ⟨gb291, 1, none⟩) (Kd.R_far (p := ⟨gb291, 0, none⟩) (Kd.R_types HO253.out BK291.out (by decide)) (fun _ hk => hk.2) (.int .i64 t285)) (fun _ hk => hk.2) (.int .i64 t286)) (fun _ hk => hk.2) (.slice Ao48 t287.length co48)) (fun _ hk => ⟨hk.1.2.1, ⟨hk.1.1, hk.1.2.2.2⟩⟩)⟩, ⟨by (with_reducible repeat (first | apply Kd.R_alloc | apply Kd.R_drewN | apply Kd.R_drew)); exact Kd.R_mono (Kd.R_far (p := ⟨gb291, 2, none⟩) (Kd.R_far (p := ⟨gb291, 1, none⟩) (Kd.R_far (p := ⟨gb291, 0, none⟩) (Kd.R_types HO263.out BK291.out (by decide)) (fun _ hk => hk.2) (.int .i64 t285)) (fun _ hk => hk.2) (.int .i64 t286)) (fun _ hk => hk.2) (.slice Ao48 t287.length co48)) (fun _ hk => ⟨hk.1.2.1, ⟨hk.1.1, hk.1.2.2.2⟩⟩)⟩, ⟨by (with_reducible repeat (first | apply Kd.R_alloc | apply Kd.R_drewN | apply Kd.R_drew)); exact Kd.R_mono (Kd.R_far (p := ⟨gb291, 2, none⟩) (Kd.R_far (p := ⟨gb291, 1, none⟩) (Kd.R_far (p := ⟨gb291, 0, none⟩) (Kd.R_types HO289.out BK291.out (by decide)) (fun _ hk => hk.2) (.int .i64 t285)) (fun _ hk => hk.2) (.int .i64 t286)) (fun _ hk => hk.2) (.slice Ao48 t287.length co48)) (fun _ hk => ⟨hk.1.2.2.1, ⟨hk.1.1, hk.1.2.1⟩⟩)⟩, ⟨by (try refine sO ?_); refine blk_far ?_ NB250_291.out _; (try refine sO ?_); refine blk_far ?_ NB250_291.out _; (try refine sO ?_); refine blk_far ?_ NB250_291.out _; (try refine sO ?_); exact BK250.out⟩, ⟨by (try refine sO ?_); refine blk_far ?_ NB254_291.out _; (try refine sO ?_); refine blk_far ?_ NB254_291.out _; (try refine sO ?_); refine blk_far ?_ NB254_291.out _; (try refine sO ?_); exact BK254.out⟩, ⟨by (try refine sO ?_); refine blk_far ?_ NB265_291.out _; (try refine sO ?_); refine blk_far ?_ NB265_291.out _; (try refine sO ?_); refine blk_far ?_ NB265_291.out _; (try refine sO ?_); exact BK265.out⟩, ⟨by (try refine sO ?_); refine blk_put (cs := #[.int .i64 t285, .int .i64 t286, .slice none 0 0]) ?_ 2 _ rfl; (try refine sO ?_); refine blk_put (cs := #[.int .i64 t285, .int .i64 0, .slice none 0 0]) ?_ 1 _ rfl; (try refine sO ?_); refine blk_put (cs := #[.int .i64 0, .int .i64 0, .slice none 0 0]) ?_ 0 _ rfl; (try refine sO ?_); exact BK291.out⟩, ⟨by repeat (first | exact sH HB.out | refine sN (w := w) ?_ | with_reducible refine sG (w := w) ?_ (by assumption))⟩⟩
                      · rw [if_neg c57] at H
                        exact absurd H (by simp)
                    · rw [if_neg c56] at H
                      exact absurd H (by simp)
                  · rw [if_neg c55] at H
                    exact absurd H (by simp)
                · rw [if_neg c54] at H
                  exact absurd H (by simp)
              · rw [if_neg c53] at H
                exact absurd H (by simp)
            · rw [if_neg c52] at H
              exact absurd H (by simp)
          · rw [if_neg c51] at H
            exact absurd H (by simp)
        · rw [if_neg c50] at H
          exact absurd H (by simp)
      case rest =>
        clear HC10
        try clear c1
        try clear p2
        try clear c5
        try clear c15
        try clear c50
        try clear c50b0
        try clear c50b1
        try clear c51
        try clear c51b0
        try clear c51b1
        try clear c52
        try clear c52b0
        try clear c52b1
        try clear c53
        try clear c53b0
        try clear c53b1
        try clear c54
        try clear c54b0
        try clear c54b1
        try clear c55
        try clear c55b0
        try clear c55b1
        try clear c56
        try clear c56b0
        try clear c56b1
        try clear c57
        try clear c57b0
        try clear c57b1
        obtain ⟨kq, x94_9, rfl, HA, HJ9, HO_3, HO_7, HO_9, HO_255002, HO_266002, HO_292002, BK250, BK254, BK265, BK291, HB⟩ := hcut
        cases kq with
        | zero => exact absurd HA.out (by simp [twoslotlaw15_alive.j0])
        | succ kj9 =>
          have H := HA.out
          clear HA
          simp only [twoslotlaw15_alive.j0] at H
          by_cases c59 : x94_9 = true
          · subst c59
            have H1 : (none) = some r := by rw [if_pos rfl] at H; exact H
            clear H
            have H := H1
            clear H1
            exact absurd H (by simp)
          · replace c59 := Bool.eq_false_iff.mpr c59
            subst c59
            have H1 : (if 3 < (t255.length : Int) then (if (rd t255 3) = 70 then (if 6 < (t255.length : Int) then (if (rd t255 6) = 2 then (if 8 < (t255.length : Int) then (if (rd t255 8) = 3 then (if 12 < (t255.length : Int) then (if (rd t255 12) = 5 then (if 14 < (t255.length : Int) then (if (rd t255 14) = 1 then (if 18 < (t255.length : Int) then (if (rd t255 18) = 6 then (if 19 < (t255.length : Int) then (if (rd t255 19) = 0 then ((twoslotref15_Same.f kj9 t259 t260 t261 70 0 y251).bind fun t299 => (if t299 = true then (if 0 < (t274.length : Int) then (if 0 < (y251.length : Int) then (if (((rd_T27 t274 0).f0) == ((rd_T27 y251 0).f0) && (((rd_T27 t274 0).f1) == ((rd_T27 y251 0).f1))) = true then (if 1 < (t270.length : Int) then (if (rd t270 1) = 3 then ((desc_Check.f kj9 t246 t247 t248 t249 70 0 ([] : List (S27))).bind fun t303 => (some (t303 == 150))) else (none)) else (none)) else (none)) else (none)) else (none)) else (none))) else (none)) else (none)) else (none)) else (none)) else (none)) else (none)) else (none)) else (none)) else (none)) else (none)) else (none)) else (none)) else (none)) else (none)) = some r := by rw [if_neg (show ¬ (false = true) by decide)] at H; exact H
            clear H
            have H := H1
            clear H1
            by_cases c60 : 3 < (t255.length : Int)
            · rw [if_pos c60] at H
              have c60b0 : decide (3 < (t255.length : Int)) = true := decide_eq_true c60
              have c60b1 : decide (3 < t255.length) = true := decide_eq_true (by omega)
              clear c60
              by_cases c61 : (rd t255 3) = 70
              · rw [if_pos c61] at H
                have c61b0 : ((rd t255 3) == 70) = true := beq_iff_eq.mpr c61
                have c61b1 : ((rd t255 3) != 70) = false := bne_eq_false_iff_eq.mpr c61
                clear c61
                by_cases c62 : 6 < (t255.length : Int)
                · rw [if_pos c62] at H
                  have c62b0 : decide (6 < (t255.length : Int)) = true := decide_eq_true c62
                  have c62b1 : decide (6 < t255.length) = true := decide_eq_true (by omega)
                  clear c62
                  by_cases c63 : (rd t255 6) = 2
                  · rw [if_pos c63] at H
                    have c63b0 : ((rd t255 6) == 2) = true := beq_iff_eq.mpr c63
                    have c63b1 : ((rd t255 6) != 2) = false := bne_eq_false_iff_eq.mpr c63
                    clear c63
                    by_cases c64 : 8 < (t255.length : Int)
                    · rw [if_pos c64] at H
                      have c64b0 : decide (8 < (t255.length : Int)) = true := decide_eq_true c64
                      have c64b1 : decide (8 < t255.length) = true := decide_eq_true (by omega)
                      clear c64
                      by_cases c65 : (rd t255 8) = 3
                      · rw [if_pos c65] at H
                        have c65b0 : ((rd t255 8) == 3) = true := beq_iff_eq.mpr c65
                        have c65b1 : ((rd t255 8) != 3) = false := bne_eq_false_iff_eq.mpr c65
                        clear c65
                        by_cases c66 : 12 < (t255.length : Int)
                        · rw [if_pos c66] at H
                          have c66b0 : decide (12 < (t255.length : Int)) = true := decide_eq_true c66
                          have c66b1 : decide (12 < t255.length) = true := decide_eq_true (by omega)
                          clear c66
                          by_cases c67 : (rd t255 12) = 5
                          · rw [if_pos c67] at H
                            have c67b0 : ((rd t255 12) == 5) = true := beq_iff_eq.mpr c67
                            have c67b1 : ((rd t255 12) != 5) = false := bne_eq_false_iff_eq.mpr c67
                            clear c67
                            by_cases c68 : 14 < (t255.length : Int)
                            · rw [if_pos c68] at H
                              have c68b0 : decide (14 < (t255.length : Int)) = true := decide_eq_true c68
                              have c68b1 : decide (14 < t255.length) = true := decide_eq_true (by omega)
                              clear c68
                              by_cases c69 : (rd t255 14) = 1
                              · rw [if_pos c69] at H
                                have c69b0 : ((rd t255 14) == 1) = true := beq_iff_eq.mpr c69
                                have c69b1 : ((rd t255 14) != 1) = false := bne_eq_false_iff_eq.mpr c69
                                clear c69
                                by_cases c70 : 18 < (t255.length : Int)
                                · rw [if_pos c70] at H
                                  have c70b0 : decide (18 < (t255.length : Int)) = true := decide_eq_true c70
                                  have c70b1 : decide (18 < t255.length) = true := decide_eq_true (by omega)
                                  clear c70
                                  by_cases c71 : (rd t255 18) = 6
                                  · rw [if_pos c71] at H
                                    have c71b0 : ((rd t255 18) == 6) = true := beq_iff_eq.mpr c71
                                    have c71b1 : ((rd t255 18) != 6) = false := bne_eq_false_iff_eq.mpr c71
                                    clear c71
                                    by_cases c72 : 19 < (t255.length : Int)
                                    · rw [if_pos c72] at H
                                      have c72b0 : decide (19 < (t255.length : Int)) = true := decide_eq_true c72
                                      have c72b1 : decide (19 < t255.length) = true := decide_eq_true (by omega)
                                      clear c72
                                      by_cases c73 : (rd t255 19) = 0
                                      · rw [if_pos c73] at H
                                        have c73b0 : ((rd t255 19) == 0) = true := beq_iff_eq.mpr c73
                                        have c73b1 : ((rd t255 19) != 0) = false := bne_eq_false_iff_eq.mpr c73
                                        clear c73
                                        replace H := Option.bind_eq_some_iff.mp H
                                        obtain ⟨t299, A740, H⟩ := H
                                        try dsimp only at H
                                        have A74 := Aside0.mk A740
                                        clear A740
                                        by_cases c75 : t299 = true
                                        · subst c75
                                          have H1 : (if 0 < (t274.length : Int) then (if 0 < (y251.length : Int) then (if (((rd_T27 t274 0).f0) == ((rd_T27 y251 0).f0) && (((rd_T27 t274 0).f1) == ((rd_T27 y251 0).f1))) = true then (if 1 < (t270.length : Int) then (if (rd t270 1) = 3 then ((desc_Check.f kj9 t246 t247 t248 t249 70 0 ([] : List (S27))).bind fun t303 => (some (t303 == 150))) else (none)) else (none)) else (none)) else (none)) else (none)) = some r := by rw [if_pos rfl] at H; exact H
                                          clear H
                                          have H := H1
                                          clear H1
                                          by_cases c76 : 0 < (t274.length : Int)
                                          · rw [if_pos c76] at H
                                            have c76b0 : decide (0 < (t274.length : Int)) = true := decide_eq_true c76
                                            have c76b1 : decide (0 < t274.length) = true := decide_eq_true (by omega)
                                            clear c76
                                            by_cases c77 : 0 < (y251.length : Int)
                                            · rw [if_pos c77] at H
                                              have c77b0 : decide (0 < (y251.length : Int)) = true := decide_eq_true c77
                                              have c77b1 : decide (0 < y251.length) = true := decide_eq_true (by omega)
                                              clear c77
                                              by_cases c78 : (((rd_T27 t274 0).f0) == ((rd_T27 y251 0).f0) && (((rd_T27 t274 0).f1) == ((rd_T27 y251 0).f1))) = true
                                              · rw [if_pos c78] at H
                                                have c78b0 : (((rd_T27 t274 0).f0) == ((rd_T27 y251 0).f0) && (((rd_T27 t274 0).f1) == ((rd_T27 y251 0).f1))) = true := c78
                                                (try (have c78b1 : decide (((rd_T27 t274 0).f0) = ((rd_T27 y251 0).f0) && (((rd_T27 t274 0).f1) == ((rd_T27 y251 0).f1))) = true := by simpa using c78))
                                                (try (have c78b2 : (((rd_T27 t274 0).f0) == ((rd_T27 y251 0).f0) && (((rd_T27 t274 0).f1) == ((rd_T27 y251 0).f1))) = true := by simpa using c78))
                                                clear c78
                                                by_cases c79 : 1 < (t270.length : Int)
                                                · rw [if_pos c79] at H
                                                  have c79b0 : decide (1 < (t270.length : Int)) = true := decide_eq_true c79
                                                  have c79b1 : decide (1 < t270.length) = true := decide_eq_true (by omega)
                                                  clear c79
                                                  by_cases c80 : (rd t270 1) = 3
                                                  · rw [if_pos c80] at H
                                                    have c80b0 : ((rd t270 1) == 3) = true := beq_iff_eq.mpr c80
                                                    have c80b1 : ((rd t270 1) != 3) = false := bne_eq_false_iff_eq.mpr c80
                                                    clear c80
                                                    replace H := Option.bind_eq_some_iff.mp H
                                                    obtain ⟨t303, A810, H⟩ := H
                                                    try dsimp only at H
                                                    have A81 := Aside0.mk A810
                                                    clear A810
                                                    obtain rfl := Option.some.inj H
                                                    try go_wp2
                                                    replace HO_3 := Aside0.mk (Kd.R_drew HO_3.out); replace HO_7 := Aside0.mk (Kd.R_drew HO_7.out); replace HO_9 := Aside0.mk (Kd.R_drew HO_9.out); replace HO_255002 := Aside0.mk (Kd.R_drew HO_255002.out); replace HO_266002 := Aside0.mk (Kd.R_drew HO_266002.out); replace HO_292002 := Aside0.mk (Kd.R_drew HO_292002.out); replace BK250 := Aside0.mk (blk_drew BK250.out); replace BK254 := Aside0.mk (blk_drew BK254.out); replace BK265 := Aside0.mk (blk_drew BK265.out); replace BK291 := Aside0.mk (blk_drew BK291.out); replace HB := Aside0.mk (below_drew1 HB.out)
                                                    have p292 : 0 ≤ (3 : Int) := (by omega)
                                                    have q292 : 3 < (t255.length : Int) := of_decide_eq_true (by first | (with_reducible assumption) | assumption)
                                                    obtain ⟨ad292, e292, hx292_0⟩ := Kd.at_int (Kd.R_reads' HO_3.out).2.2 3 p292 q292
                                                    cases e292
                                                    (try simp only [show (3 : Int).toNat = 3 from rfl, Nat.reduceMul, Nat.reduceEqDiff, Go.Addr.add, ↓reduceIte] at hx292_0)
                                                    have qi292 : (3 < t255.length) = True := eq_true (by omega)
                                                    (try rw [show ((3 : Int)).toNat = 3 from rfl] at hx292_0)
                                                    replace p292 := eq_true p292
                                                    replace q292 := eq_true q292
                                                    have p293 : 0 ≤ (6 : Int) := (by omega)
                                                    have q293 : 6 < (t255.length : Int) := of_decide_eq_true (by first | (with_reducible assumption) | assumption)
                                                    obtain ⟨ad293, e293, hx293_0⟩ := Kd.at_int (Kd.R_reads' HO_3.out).2.2 6 p293 q293
                                                    obtain rfl : ad292 = ad293 := (by injection e293)
                                                    (try simp only [show (6 : Int).toNat = 6 from rfl, Nat.reduceMul, Nat.reduceEqDiff, Go.Addr.add, ↓reduceIte] at hx293_0)
                                                    have qi293 : (6 < t255.length) = True := eq_true (by omega)
                                                    (try rw [show ((6 : Int)).toNat = 6 from rfl] at hx293_0)
                                                    replace p293 := eq_true p293
                                                    replace q293 := eq_true q293
                                                    have p294 : 0 ≤ (8 : Int) := (by omega)
                                                    have q294 : 8 < (t255.length : Int) := of_decide_eq_true (by first | (with_reducible assumption) | assumption)
                                                    obtain ⟨ad294, e294, hx294_0⟩ := Kd.at_int (Kd.R_reads' HO_3.out).2.2 8 p294 q294
                                                    obtain rfl : ad292 = ad294 := (by injection e294)
                                                    (try simp only [show (8 : Int).toNat = 8 from rfl, Nat.reduceMul, Nat.reduceEqDiff, Go.Addr.add, ↓reduceIte] at hx294_0)
                                                    have qi294 : (8 < t255.length) = True := eq_true (by omega)
                                                    (try rw [show ((8 : Int)).toNat = 8 from rfl] at hx294_0)
                                                    replace p294 := eq_true p294
                                                    replace q294 := eq_true q294
                                                    have p295 : 0 ≤ (12 : Int) := (by omega)
                                                    have q295 : 12 < (t255.length : Int) := of_decide_eq_true (by first | (with_reducible assumption) | assumption)
                                                    obtain ⟨ad295, e295, hx295_0⟩ := Kd.at_int (Kd.R_reads' HO_3.out).2.2 12 p295 q295
                                                    obtain rfl : ad292 = ad295 := (by injection e295)
                                                    (try simp only [show (12 : Int).toNat = 12 from rfl, Nat.reduceMul, Nat.reduceEqDiff, Go.Addr.add, ↓reduceIte] at hx295_0)
                                                    have qi295 : (12 < t255.length) = True := eq_true (by omega)
                                                    (try rw [show ((12 : Int)).toNat = 12 from rfl] at hx295_0)
                                                    replace p295 := eq_true p295
                                                    replace q295 := eq_true q295
                                                    have p296 : 0 ≤ (14 : Int) := (by omega)
                                                    have q296 : 14 < (t255.length : Int) := of_decide_eq_true (by first | (with_reducible assumption) | assumption)
                                                    obtain ⟨ad296, e296, hx296_0⟩ := Kd.at_int (Kd.R_reads' HO_3.out).2.2 14 p296 q296
                                                    obtain rfl : ad292 = ad296 := (by injection e296)
                                                    (try simp only [show (14 : Int).toNat = 14 from rfl, Nat.reduceMul, Nat.reduceEqDiff, Go.Addr.add, ↓reduceIte] at hx296_0)
                                                    have qi296 : (14 < t255.length) = True := eq_true (by omega)
                                                    (try rw [show ((14 : Int)).toNat = 14 from rfl] at hx296_0)
                                                    replace p296 := eq_true p296
                                                    replace q296 := eq_true q296
                                                    have p297 : 0 ≤ (18 : Int) := (by omega)
                                                    have q297 : 18 < (t255.length : Int) := of_decide_eq_true (by first | (with_reducible assumption) | assumption)
                                                    obtain ⟨ad297, e297, hx297_0⟩ := Kd.at_int (Kd.R_reads' HO_3.out).2.2 18 p297 q297
                                                    obtain rfl : ad292 = ad297 := (by injection e297)
                                                    (try simp only [show (18 : Int).toNat = 18 from rfl, Nat.reduceMul, Nat.reduceEqDiff, Go.Addr.add, ↓reduceIte] at hx297_0)
                                                    have qi297 : (18 < t255.length) = True := eq_true (by omega)
                                                    (try rw [show ((18 : Int)).toNat = 18 from rfl] at hx297_0)
                                                    replace p297 := eq_true p297
                                                    replace q297 := eq_true q297
                                                    have p298 : 0 ≤ (19 : Int) := (by omega)
                                                    have q298 : 19 < (t255.length : Int) := of_decide_eq_true (by first | (with_reducible assumption) | assumption)
                                                    obtain ⟨ad298, e298, hx298_0⟩ := Kd.at_int (Kd.R_reads' HO_3.out).2.2 19 p298 q298
                                                    obtain rfl : ad292 = ad298 := (by injection e298)
                                                    (try simp only [show (19 : Int).toNat = 19 from rfl, Nat.reduceMul, Nat.reduceEqDiff, Go.Addr.add, ↓reduceIte] at hx298_0)
                                                    have qi298 : (19 < t255.length) = True := eq_true (by omega)
                                                    (try rw [show ((19 : Int)).toNat = 19 from rfl] at hx298_0)
                                                    replace p298 := eq_true p298
                                                    replace q298 := eq_true q298
                                                    have p300 : 0 ≤ (0 : Int) := (by omega)
                                                    have q300 : 0 < (t274.length : Int) := of_decide_eq_true (by first | (with_reducible assumption) | assumption)
                                                    obtain ⟨Ao9_, co9_, eo9_⟩ := Kd.R_slice HO_9.out
                                                    subst eo9_
                                                    obtain ⟨ad300, e300, hx300_0, hx300_1⟩ := at_T27 (Kd.R_reads' HO_9.out).2.2 0 p300 q300
                                                    cases e300
                                                    have qi300 : (0 < t274.length) = True := eq_true (by omega)
                                                    (try rw [show ((0 : Int)).toNat = 0 from rfl] at hx300_0)
                                                    (try rw [show 0 * 2 = 0 from rfl] at hx300_0)
                                                    (try rw [Addr.add_zero'] at hx300_0)
                                                    (try rw [show ((0 : Int)).toNat = 0 from rfl] at hx300_1)
                                                    (try rw [show 0 * 2 = 0 from rfl] at hx300_1)
                                                    (try rw [Addr.add_zero'] at hx300_1)
                                                    replace p300 := eq_true p300
                                                    replace q300 := eq_true q300
                                                    have p301 : 0 ≤ (0 : Int) := (by omega)
                                                    have q301 : 0 < (y251.length : Int) := of_decide_eq_true (by first | (with_reducible assumption) | assumption)
                                                    obtain ⟨ad301, e301, hx301_0, hx301_1⟩ := at_T27 (Kd.R_reads' HO_255002.out).2.2 0 p301 q301
                                                    cases e301
                                                    have qi301 : (0 < y251.length) = True := eq_true (by omega)
                                                    (try rw [show ((0 : Int)).toNat = 0 from rfl] at hx301_0)
                                                    (try rw [show 0 * 2 = 0 from rfl] at hx301_0)
                                                    (try rw [Addr.add_zero'] at hx301_0)
                                                    (try rw [show ((0 : Int)).toNat = 0 from rfl] at hx301_1)
                                                    (try rw [show 0 * 2 = 0 from rfl] at hx301_1)
                                                    (try rw [Addr.add_zero'] at hx301_1)
                                                    replace p301 := eq_true p301
                                                    replace q301 := eq_true q301
                                                    have p302 : 0 ≤ (1 : Int) := (by omega)
                                                    have q302 : 1 < (t270.length : Int) := of_decide_eq_true (by first | (with_reducible assumption) | assumption)
                                                    obtain ⟨ad302, e302, hx302_0⟩ := Kd.at_int (Kd.R_reads' HO_7.out).2.2 1 p302 q302
                                                    cases e302
                                                    (try simp only [show (1 : Int).toNat = 1 from rfl, Nat.reduceMul, Nat.reduceEqDiff, Go.Addr.add, ↓reduceIte] at hx302_0)
                                                    have qi302 : (1 < t270.length) = True := eq_true (by omega)
                                                    (try rw [show ((1 : Int)).toNat = 1 from rfl] at hx302_0)
                                                    replace p302 := eq_true p302
                                                    replace q302 := eq_true q302
                                                    refine start_ (n := 68) (S := fun w' => w'.cell? ⟨gb265, 0, none⟩ = some (.int .i64 t259) ∧ w'.cell? ⟨gb265, 1, none⟩ = some (.int .i64 t260) ∧ w'.cell? ⟨gb265, 2, none⟩ = some (.slice Ao29 t261.length co29) ∧ w'.cell? ⟨gb254, 0, none⟩ = some (.int .i64 70) ∧ w'.cell? ⟨gb254, 1, none⟩ = some (.int .i64 0) ∧ w'.cell? ⟨gb254, 2, none⟩ = some (.slice (some ad301) y251.length co16) ∧ w'.cell? ⟨gb250, 0, none⟩ = some (.int .i64 t246) ∧ w'.cell? ⟨gb250, 1, none⟩ = some (.int .i64 t247) ∧ w'.cell? ⟨gb250, 2, none⟩ = some (.int .i64 t248) ∧ w'.cell? ⟨gb250, 3, none⟩ = some (.int .i64 t249) ∧ w'.cell? ⟨ad292.block, ad292.off + 3, none⟩ = some (.int .u8 (rd t255 3)) ∧ w'.cell? ⟨ad292.block, ad292.off + 6, none⟩ = some (.int .u8 (rd t255 6)) ∧ w'.cell? ⟨ad292.block, ad292.off + 8, none⟩ = some (.int .u8 (rd t255 8)) ∧ w'.cell? ⟨ad292.block, ad292.off + 12, none⟩ = some (.int .u8 (rd t255 12)) ∧ w'.cell? ⟨ad292.block, ad292.off + 14, none⟩ = some (.int .u8 (rd t255 14)) ∧ w'.cell? ⟨ad292.block, ad292.off + 18, none⟩ = some (.int .u8 (rd t255 18)) ∧ w'.cell? ⟨ad292.block, ad292.off + 19, none⟩ = some (.int .u8 (rd t255 19)) ∧ w'.cell? ad300 = some (.int .i64 ((rd_T27 t274 0).f0)) ∧ w'.cell? ⟨ad300.block, ad300.off + 1, none⟩ = some (.int .i64 ((rd_T27 t274 0).f1)) ∧ w'.cell? ad301 = some (.int .i64 ((rd_T27 y251 0).f0)) ∧ w'.cell? ⟨ad301.block, ad301.off + 1, none⟩ = some (.int .i64 ((rd_T27 y251 0).f1)) ∧ w'.cell? ⟨ad302.block, ad302.off + 1, none⟩ = some (.int .u8 (rd t270 1))) (ds := []) #[O, O, O, O, O, O, O, O, O, O, O, O, O, O, O, O, O, O, O, O, O, O, O, O, O, O, O, O, O, O, O, O, O, O, O, O, O, O, O, O, O, O, O, O, O, O, O, O, O, O, O, O, O, O, O, O, O, O, O, O, O, O, O, O, O, O, O, O] (by kernel_rfl) rfl rfl ⟨(blk_cell BK265.out 0).trans rfl, (blk_cell BK265.out 1).trans rfl, (blk_cell BK265.out 2).trans rfl, (blk_cell BK254.out 0).trans rfl, (blk_cell BK254.out 1).trans rfl, (blk_cell BK254.out 2).trans rfl, (blk_cell BK250.out 0).trans rfl, (blk_cell BK250.out 1).trans rfl, (blk_cell BK250.out 2).trans rfl, (blk_cell BK250.out 3).trans rfl, hx292_0, hx293_0, hx294_0, hx295_0, hx296_0, hx297_0, hx298_0, hx300_0, hx300_1, hx301_0, hx301_1, hx302_0⟩ (fun hHeld => ?_); refine with_tabW twoslotlaw15_alive.tab11 twoslotlaw15_alive.bits11 (fun HT_ HW_ => ?_)
                                                    generalize wc.drew = w82 at HO_3 HO_7 HO_9 HO_255002 HO_266002 HO_292002 BK250 BK254 BK265 BK291 HB hx292_0 hx293_0 hx294_0 hx295_0 hx296_0 hx297_0 hx298_0 hx300_0 hx300_1 hx301_0 hx301_1 hx302_0 hHeld ⊢
                                                    refine pu (i := 0) (N := some 95) (v := ?_) (a' := ?_) #[X, O, O, O, O, O, O, O, O, O, O, O, O, O, O, O, O, O, O, O, O, O, O, O, O, O, O, O, O, O, O, O, O, O, O, O, O, O, O, O, O, O, O, O, O, O, O, O, O, O, O, O, O, O, O, O, O, O, O, O, O, O, O, O, O, O, O, O] rfl rfl HT_ (by kernel_rfl) (fun _ _ _ h => h) ⟨by rfl, ?_⟩ ?_ ?_
                                                    rotate_left
                                                    · intro w'; go_simp; with_reducible rfl
                                                    rotate_left
                                                    · simp only [sP]
                                                      rfl
                                                    refine pu (i := 1) (N := some 96) (v := ?_) (a' := ?_) #[X, X, O, O, O, O, O, O, O, O, O, O, O, O, O, O, O, O, O, O, O, O, O, O, O, O, O, O, O, O, O, O, O, O, O, O, O, O, O, O, O, O, O, O, O, O, O, O, O, O, O, O, O, O, O, O, O, O, O, O, O, O, O, O, O, O, O, O] rfl rfl HT_ (by kernel_rfl) (fun _ _ _ h => h) ⟨by rfl, ?_⟩ ?_ ?_
                                                    rotate_left
                                                    · intro w'; go_simp; with_reducible rfl
                                                    rotate_left
                                                    · simp only [sP]
                                                      rfl
                                                    refine tu (i := 2) (N := some 97) (v := ?_) (a' := ?_) #[X, X, X, O, O, O, O, O, O, O, O, O, O, O, O, O, O, O, O, O, O, O, O, O, O, O, O, O, O, O, O, O, O, O, O, O, O, O, O, O, O, O, O, O, O, O, O, O, O, O, O, O, O, O, O, O, O, O, O, O, O, O, O, O, O, O, O, O] rfl rfl HT_ HW_ (by kernel_rfl) (fun _ _ _ h => h) ⟨by rfl, ?_⟩ hHeld ?_ ?_
                                                    rotate_left
                                                    · rintro w' ⟨s0, s1, s2, s3, s4, s5, s6, s7, s8, s9, s10, s11, s12, s13, s14, s15, s16, s17, s18, s19, s20, s21⟩; go_simp; with_reducible rfl
                                                    rotate_left
                                                    · simp only [sP]
                                                      rfl
                                                    refine pu (i := 3) (N := some 98) (v := ?_) (a' := ?_) #[X, X, X, X, O, O, O, O, O, O, O, O, O, O, O, O, O, O, O, O, O, O, O, O, O, O, O, O, O, O, O, O, O, O, O, O, O, O, O, O, O, O, O, O, O, O, O, O, O, O, O, O, O, O, O, O, O, O, O, O, O, O, O, O, O, O, O, O] rfl rfl HT_ (by kernel_rfl) (fun _ _ _ h => h) ⟨by rfl, ?_⟩ ?_ ?_
                                                    rotate_left
                                                    · intro w'; go_simp; with_reducible rfl
                                                    rotate_left
                                                    · simp only [sP]
                                                      rfl
                                                    refine pu (i := 4) (N := some 99) (v := ?_) (a' := ?_) #[X, X, X, X, X, O, O, O, O, O, O, O, O, O, O, O, O, O, O, O, O, O, O, O, O, O, O, O, O, O, O, O, O, O, O, O, O, O, O, O, O, O, O, O, O, O, O, O, O, O, O, O, O, O, O, O, O, O, O, O, O, O, O, O, O, O, O, O] rfl rfl HT_ (by kernel_rfl) (fun _ _ _ h => h) ⟨by rfl, ?_⟩ ?_ ?_
                                                    rotate_left
                                                    · intro w'; go_simp; with_reducible rfl
                                                    rotate_left
                                                    · simp only [sP]
                                                      rfl
                                                    refine pu (i := 5) (N := some 100) (v := ?_) (a' := ?_) #[X, X, X, X, X, X, O, O, O, O, O, O, O, O, O, O, O, O, O, O, O, O, O, O, O, O, O, O, O, O, O, O, O, O, O, O, O, O, O, O, O, O, O, O, O, O, O, O, O, O, O, O, O, O, O, O, O, O, O, O, O, O, O, O, O, O, O, O] rfl rfl HT_ (by kernel_rfl) (fun _ _ _ h => h) ⟨by rfl, ?_⟩ ?_ ?_
                                                    rotate_left
                                                    · intro w'; go_simp; with_reducible rfl
                                                    rotate_left
                                                    · simp only [sP]
                                                      rfl
                                                    refine pu (i := 6) (N := some 101) (v := ?_) (a' := ?_) #[X, X, X, X, X, X, X, O, O, O, O, O, O, O, O, O, O, O, O, O, O, O, O, O, O, O, O, O, O, O, O, O, O, O, O, O, O, O, O, O, O, O, O, O, O, O, O, O, O, O, O, O, O, O, O, O, O, O, O, O, O, O, O, O, O, O, O, O] rfl rfl HT_ (by kernel_rfl) (fun _ _ _ h => h) ⟨by rfl, ?_⟩ ?_ ?_
                                                    rotate_left
                                                    · intro w'; go_simp; with_reducible rfl
                                                    rotate_left
                                                    · simp only [sP]
                                                      rfl
                                                    refine tu (i := 7) (N := some 102) (v := ?_) (a' := ?_) #[X, X, X, X, X, X, X, X, O, O, O, O, O, O, O, O, O, O, O, O, O, O, O, O, O, O, O, O, O, O, O, O, O, O, O, O, O, O, O, O, O, O, O, O, O, O, O, O, O, O, O, O, O, O, O, O, O, O, O, O, O, O, O, O, O, O, O, O] rfl rfl HT_ HW_ (by kernel_rfl) (fun _ _ _ h => h) ⟨by rfl, ?_⟩ hHeld ?_ ?_
                                                    rotate_left
                                                    · rintro w' ⟨s0, s1, s2, s3, s4, s5, s6, s7, s8, s9, s10, s11, s12, s13, s14, s15, s16, s17, s18, s19, s20, s21⟩; go_simp; with_reducible rfl
                                                    rotate_left
                                                    · simp only [sP]
                                                      rfl
                                                    refine pu (i := 8) (N := some 103) (v := ?_) (a' := ?_) #[X, X, X, X, X, X, X, X, X, O, O, O, O, O, O, O, O, O, O, O, O, O, O, O, O, O, O, O, O, O, O, O, O, O, O, O, O, O, O, O, O, O, O, O, O, O, O, O, O, O, O, O, O, O, O, O, O, O, O, O, O, O, O, O, O, O, O, O] rfl rfl HT_ (by kernel_rfl) (fun _ _ _ h => h) ⟨by rfl, ?_⟩ ?_ ?_
                                                    rotate_left
                                                    · intro w'; go_simp; with_reducible rfl
                                                    rotate_left
                                                    · simp only [sP]
                                                      rfl
                                                    refine pu (i := 9) (N := some 104) (v := ?_) (a' := ?_) #[X, X, X, X, X, X, X, X, X, X, O, O, O, O, O, O, O, O, O, O, O, O, O, O, O, O, O, O, O, O, O, O, O, O, O, O, O, O, O, O, O, O, O, O, O, O, O, O, O, O, O, O, O, O, O, O, O, O, O, O, O, O, O, O, O, O, O, O] rfl rfl HT_ (by kernel_rfl) (fun _ _ _ h => h) ⟨by rfl, ?_⟩ ?_ ?_
                                                    rotate_left
                                                    · intro w'; go_simp; with_reducible rfl
                                                    rotate_left
                                                    · simp only [sP]
                                                      rfl
                                                    refine pu (i := 10) (N := some 105) (v := ?_) (a' := ?_) #[X, X, X, X, X, X, X, X, X, X, X, O, O, O, O, O, O, O, O, O, O, O, O, O, O, O, O, O, O, O, O, O, O, O, O, O, O, O, O, O, O, O, O, O, O, O, O, O, O, O, O, O, O, O, O, O, O, O, O, O, O, O, O, O, O, O, O, O] rfl rfl HT_ (by kernel_rfl) (fun _ _ _ h => h) ⟨by rfl, ?_⟩ ?_ ?_
                                                    rotate_left
                                                    · intro w'; go_simp; with_reducible rfl
                                                    rotate_left
                                                    · simp only [sP]
                                                      rfl
                                                    refine pu (i := 11) (N := some 106) (v := ?_) (a' := ?_) #[X, X, X, X, X, X, X, X, X, X, X, X, O, O, O, O, O, O, O, O, O, O, O, O, O, O, O, O, O, O, O, O, O, O, O, O, O, O, O, O, O, O, O, O, O, O, O, O, O, O, O, O, O, O, O, O, O, O, O, O, O, O, O, O, O, O, O, O] rfl rfl HT_ (by kernel_rfl) (fun _ _ _ h => h) ⟨by rfl, ?_⟩ ?_ ?_
                                                    rotate_left
                                                    · intro w'; go_simp; with_reducible rfl
                                                    rotate_left
                                                    · simp only [sP]
                                                      rfl
                                                    refine pu (i := 12) (N := some 107) (v := ?_) (a' := ?_) #[X, X, X, X, X, X, X, X, X, X, X, X, X, O, O, O, O, O, O, O, O, O, O, O, O, O, O, O, O, O, O, O, O, O, O, O, O, O, O, O, O, O, O, O, O, O, O, O, O, O, O, O, O, O, O, O, O, O, O, O, O, O, O, O, O, O, O, O] rfl rfl HT_ (by kernel_rfl) (fun _ _ _ h => h) ⟨by rfl, ?_⟩ ?_ ?_
                                                    rotate_left
                                                    · intro w'; go_simp; with_reducible rfl
                                                    rotate_left
                                                    · simp only [sP]
                                                      rfl
                                                    refine tu (i := 13) (N := some 108) (v := ?_) (a' := ?_) #[X, X, X, X, X, X, X, X, X, X, X, X, X, X, O, O, O, O, O, O, O, O, O, O, O, O, O, O, O, O, O, O, O, O, O, O, O, O, O, O, O, O, O, O, O, O, O, O, O, O, O, O, O, O, O, O, O, O, O, O, O, O, O, O, O, O, O, O] rfl rfl HT_ HW_ (by kernel_rfl) (fun _ _ _ h => h) ⟨by rfl, ?_⟩ hHeld ?_ ?_
                                                    rotate_left
                                                    · rintro w' ⟨s0, s1, s2, s3, s4, s5, s6, s7, s8, s9, s10, s11, s12, s13, s14, s15, s16, s17, s18, s19, s20, s21⟩; go_simp; with_reducible rfl
                                                    rotate_left
                                                    · simp only [sP]
                                                      rfl
                                                    refine pu (i := 14) (N := some 109) (v := ?_) (a' := ?_) #[X, X, X, X, X, X, X, X, X, X, X, X, X, X, X, O, O, O, O, O, O, O, O, O, O, O, O, O, O, O, O, O, O, O, O, O, O, O, O, O, O, O, O, O, O, O, O, O, O, O, O, O, O, O, O, O, O, O, O, O, O, O, O, O, O, O, O, O] rfl rfl HT_ (by kernel_rfl) (fun _ _ _ h => h) ⟨by rfl, ?_⟩ ?_ ?_
                                                    rotate_left
                                                    · intro w'; go_simp; with_reducible rfl
                                                    rotate_left
                                                    · simp only [sP]
                                                      rfl
                                                    refine pu (i := 15) (N := some 110) (v := ?_) (a' := ?_) #[X, X, X, X, X, X, X, X, X, X, X, X, X, X, X, X, O, O, O, O, O, O, O, O, O, O, O, O, O, O, O, O, O, O, O, O, O, O, O, O, O, O, O, O, O, O, O, O, O, O, O, O, O, O, O, O, O, O, O, O, O, O, O, O, O, O, O, O] rfl rfl HT_ (by kernel_rfl) (fun _ _ _ h => h) ⟨by rfl, ?_⟩ ?_ ?_
                                                    rotate_left
                                                    · intro w'; go_simp; with_reducible rfl
                                                    rotate_left
                                                    · simp only [sP]
                                                      rfl
                                                    refine pu (i := 16) (N := some 111) (v := ?_) (a' := ?_) #[X, X, X, X, X, X, X, X, X, X, X, X, X, X, X, X, X, O, O, O, O, O, O, O, O, O, O, O, O, O, O, O, O, O, O, O, O, O, O, O, O, O, O, O, O, O, O, O, O, O, O, O, O, O, O, O, O, O, O, O, O, O, O, O, O, O, O, O] rfl rfl HT_ (by kernel_rfl) (fun _ _ _ h => h) ⟨by rfl, ?_⟩ ?_ ?_
                                                    rotate_left
                                                    · intro w'; go_simp; with_reducible rfl
                                                    rotate_left
                                                    · simp only [sP]
                                                      rfl
                                                    refine pu (i := 17) (N := some 112) (v := ?_) (a' := ?_) #[X, X, X, X, X, X, X, X, X, X, X, X, X, X, X, X, X, X, O, O, O, O, O, O, O, O, O, O, O, O, O, O, O, O, O, O, O, O, O, O, O, O, O, O, O, O, O, O, O, O, O, O, O, O, O, O, O, O, O, O, O, O, O, O, O, O, O, O] rfl rfl HT_ (by kernel_rfl) (fun _ _ _ h => h) ⟨by rfl, ?_⟩ ?_ ?_
                                                    rotate_left
                                                    · intro w'; go_simp; with_reducible rfl
                                                    rotate_left
                                                    · simp only [sP]
                                                      rfl
                                                    refine pu (i := 18) (N := some 113) (v := ?_) (a' := ?_) #[X, X, X, X, X, X, X, X, X, X, X, X, X, X, X, X, X, X, X, O, O, O, O, O, O, O, O, O, O, O, O, O, O, O, O, O, O, O, O, O, O, O, O, O, O, O, O, O, O, O, O, O, O, O, O, O, O, O, O, O, O, O, O, O, O, O, O, O] rfl rfl HT_ (by kernel_rfl) (fun _ _ _ h => h) ⟨by rfl, ?_⟩ ?_ ?_
                                                    rotate_left
                                                    · intro w'; go_simp; with_reducible rfl
                                                    rotate_left
                                                    · simp only [sP]
                                                      rfl
                                                    refine tu (i := 19) (N := some 114) (v := ?_) (a' := ?_) #[X, X, X, X, X, X, X, X, X, X, X, X, X, X, X, X, X, X, X, X, O, O, O, O, O, O, O, O, O, O, O, O, O, O, O, O, O, O, O, O, O, O, O, O, O, O, O, O, O, O, O, O, O, O, O, O, O, O, O, O, O, O, O, O, O, O, O, O] rfl rfl HT_ HW_ (by kernel_rfl) (fun _ _ _ h => h) ⟨by rfl, ?_⟩ hHeld ?_ ?_
                                                    rotate_left
                                                    · rintro w' ⟨s0, s1, s2, s3, s4, s5, s6, s7, s8, s9, s10, s11, s12, s13, s14, s15, s16, s17, s18, s19, s20, s21⟩; go_simp; with_reducible rfl
                                                    rotate_left
                                                    · simp only [sP]
                                                      rfl
                                                    refine pu (i := 20) (N := some 115) (v := ?_) (a' := ?_) #[X, X, X, X, X, X, X, X, X, X, X, X, X, X, X, X, X, X, X, X, X, O, O, O, O, O, O, O, O, O, O, O, O, O, O, O, O, O, O, O, O, O, O, O, O, O, O, O, O, O, O, O, O, O, O, O, O, O, O, O, O, O, O, O, O, O, O, O] rfl rfl HT_ (by kernel_rfl) (fun _ _ _ h => h) ⟨by rfl, ?_⟩ ?_ ?_
                                                    rotate_left
                                                    · intro w'; go_simp; with_reducible rfl
                                                    rotate_left
                                                    · simp only [sP]
                                                      rfl
                                                    refine pu (i := 21) (N := some 116) (v := ?_) (a' := ?_) #[X, X, X, X, X, X, X, X, X, X, X, X, X, X, X, X, X, X, X, X, X, X, O, O, O, O, O, O, O, O, O, O, O, O, O, O, O, O, O, O, O, O, O, O, O, O, O, O, O, O, O, O, O, O, O, O, O, O, O, O, O, O, O, O, O, O, O, O] rfl rfl HT_ (by kernel_rfl) (fun _ _ _ h => h) ⟨by rfl, ?_⟩ ?_ ?_
                                                    rotate_left
                                                    · intro w'; go_simp; with_reducible rfl
                                                    rotate_left
                                                    · simp only [sP]
                                                      rfl
                                                    refine pu (i := 22) (N := some 117) (v := ?_) (a' := ?_) #[X, X, X, X, X, X, X, X, X, X, X, X, X, X, X, X, X, X, X, X, X, X, X, O, O, O, O, O, O, O, O, O, O, O, O, O, O, O, O, O, O, O, O, O, O, O, O, O, O, O, O, O, O, O, O, O, O, O, O, O, O, O, O, O, O, O, O, O] rfl rfl HT_ (by kernel_rfl) (fun _ _ _ h => h) ⟨by rfl, ?_⟩ ?_ ?_
                                                    rotate_left
                                                    · intro w'; go_simp; with_reducible rfl
                                                    rotate_left
                                                    · simp only [sP]
                                                      rfl
                                                    refine pu (i := 23) (N := some 118) (v := ?_) (a' := ?_) #[X, X, X, X, X, X, X, X, X, X, X, X, X, X, X, X, X, X, X, X, X, X, X, X, O, O, O, O, O, O, O, O, O, O, O, O, O, O, O, O, O, O, O, O, O, O, O, O, O, O, O, O, O, O, O, O, O, O, O, O, O, O, O, O, O, O, O, O] rfl rfl HT_ (by kernel_rfl) (fun _ _ _ h => h) ⟨by rfl, ?_⟩ ?_ ?_
                                                    rotate_left
                                                    · intro w'; go_simp; with_reducible rfl
                                                    rotate_left
                                                    · simp only [sP]
                                                      rfl
                                                    refine pu (i := 24) (N := some 119) (v := ?_) (a' := ?_) #[X, X, X, X, X, X, X, X, X, X, X, X, X, X, X, X, X, X, X, X, X, X, X, X, X, O, O, O, O, O, O, O, O, O, O, O, O, O, O, O, O, O, O, O, O, O, O, O, O, O, O, O, O, O, O, O, O, O, O, O, O, O, O, O, O, O, O, O] rfl rfl HT_ (by kernel_rfl) (fun _ _ _ h => h) ⟨by rfl, ?_⟩ ?_ ?_
                                                    rotate_left
                                                    · intro w'; go_simp; with_reducible rfl
                                                    rotate_left
                                                    · simp only [sP]
                                                      rfl
                                                    refine tu (i := 25) (N := some 120) (v := ?_) (a' := ?_) #[X, X, X, X, X, X, X, X, X, X, X, X, X, X, X, X, X, X, X, X, X, X, X, X, X, X, O, O, O, O, O, O, O, O, O, O, O, O, O, O, O, O, O, O, O, O, O, O, O, O, O, O, O, O, O, O, O, O, O, O, O, O, O, O, O, O, O, O] rfl rfl HT_ HW_ (by kernel_rfl) (fun _ _ _ h => h) ⟨by rfl, ?_⟩ hHeld ?_ ?_
                                                    rotate_left
                                                    · rintro w' ⟨s0, s1, s2, s3, s4, s5, s6, s7, s8, s9, s10, s11, s12, s13, s14, s15, s16, s17, s18, s19, s20, s21⟩; go_simp; with_reducible rfl
                                                    rotate_left
                                                    · simp only [sP]
                                                      rfl
                                                    refine pu (i := 26) (N := some 121) (v := ?_) (a' := ?_) #[X, X, X, X, X, X, X, X, X, X, X, X, X, X, X, X, X, X, X, X, X, X, X, X, X, X, X, O, O, O, O, O, O, O, O, O, O, O, O, O, O, O, O, O, O, O, O, O, O, O, O, O, O, O, O, O, O, O, O, O, O, O, O, O, O, O, O, O] rfl rfl HT_ (by kernel_rfl) (fun _ _ _ h => h) ⟨by rfl, ?_⟩ ?_ ?_
                                                    rotate_left
                                                    · intro w'; go_simp; with_reducible rfl
                                                    rotate_left
                                                    · simp only [sP]
                                                      rfl
                                                    refine pu (i := 27) (N := some 122) (v := ?_) (a' := ?_) #[X, X, X, X, X, X, X, X, X, X, X, X, X, X, X, X, X, X, X, X, X, X, X, X, X, X, X, X, O, O, O, O, O, O, O, O, O, O, O, O, O, O, O, O, O, O, O, O, O, O, O, O, O, O, O, O, O, O, O, O, O, O, O, O, O, O, O, O] rfl rfl HT_ (by kernel_rfl) (fun _ _ _ h => h) ⟨by rfl, ?_⟩ ?_ ?_
                                                    rotate_left
                                                    · intro w'; go_simp; with_reducible rfl
                                                    rotate_left
                                                    · simp only [sP]
                                                      rfl
                                                    refine pu (i := 28) (N := some 123) (v := ?_) (a' := ?_) #[X, X, X, X, X, X, X, X, X, X, X, X, X, X, X, X, X, X, X, X, X, X, X, X, X, X, X, X, X, O, O, O, O, O, O, O, O, O, O, O, O, O, O, O, O, O, O, O, O, O, O, O, O, O, O, O, O, O, O, O, O, O, O, O, O, O, O, O] rfl rfl HT_ (by kernel_rfl) (fun _ _ _ h => h) ⟨by rfl, ?_⟩ ?_ ?_
                                                    rotate_left
                                                    · intro w'; go_simp; with_reducible rfl
                                                    rotate_left
                                                    · simp only [sP]
                                                      rfl
                                                    refine pu (i := 29) (N := some 124) (v := ?_) (a' := ?_) #[X, X, X, X, X, X, X, X, X, X, X, X, X, X, X, X, X, X, X, X, X, X, X, X, X, X, X, X, X, X, O, O, O, O, O, O, O, O, O, O, O, O, O, O, O, O, O, O, O, O, O, O, O, O, O, O, O, O, O, O, O, O, O, O, O, O, O, O] rfl rfl HT_ (by kernel_rfl) (fun _ _ _ h => h) ⟨by rfl, ?_⟩ ?_ ?_
                                                    rotate_left
                                                    · intro w'; go_simp; with_reducible rfl
                                                    rotate_left
                                                    · simp only [sP]
                                                      rfl
                                                    refine pu (i := 30) (N := some 125) (v := ?_) (a' := ?_) #[X, X, X, X, X, X, X, X, X, X, X, X, X, X, X, X, X, X, X, X, X, X, X, X, X, X, X, X, X, X, X, O, O, O, O, O, O, O, O, O, O, O, O, O, O, O, O, O, O, O, O, O, O, O, O, O, O, O, O, O, O, O, O, O, O, O, O, O] rfl rfl HT_ (by kernel_rfl) (fun _ _ _ h => h) ⟨by rfl, ?_⟩ ?_ ?_
                                                    rotate_left
                                                    · intro w'; go_simp; with_reducible rfl
                                                    rotate_left
                                                    · simp only [sP]
                                                      rfl
                                                    refine tu (i := 31) (N := some 126) (v := ?_) (a' := ?_) #[X, X, X, X, X, X, X, X, X, X, X, X, X, X, X, X, X, X, X, X, X, X, X, X, X, X, X, X, X, X, X, X, O, O, O, O, O, O, O, O, O, O, O, O, O, O, O, O, O, O, O, O, O, O, O, O, O, O, O, O, O, O, O, O, O, O, O, O] rfl rfl HT_ HW_ (by kernel_rfl) (fun _ _ _ h => h) ⟨by rfl, ?_⟩ hHeld ?_ ?_
                                                    rotate_left
                                                    · rintro w' ⟨s0, s1, s2, s3, s4, s5, s6, s7, s8, s9, s10, s11, s12, s13, s14, s15, s16, s17, s18, s19, s20, s21⟩; go_simp; with_reducible rfl
                                                    rotate_left
                                                    · simp only [sP]
                                                      rfl
                                                    refine pu (i := 32) (N := some 127) (v := ?_) (a' := ?_) #[X, X, X, X, X, X, X, X, X, X, X, X, X, X, X, X, X, X, X, X, X, X, X, X, X, X, X, X, X, X, X, X, X, O, O, O, O, O, O, O, O, O, O, O, O, O, O, O, O, O, O, O, O, O, O, O, O, O, O, O, O, O, O, O, O, O, O, O] rfl rfl HT_ (by kernel_rfl) (fun _ _ _ h => h) ⟨by rfl, ?_⟩ ?_ ?_
                                                    rotate_left
                                                    · intro w'; go_simp; with_reducible rfl
                                                    rotate_left
                                                    · simp only [sP]
                                                      rfl
                                                    refine pu (i := 33) (N := some 128) (v := ?_) (a' := ?_) #[X, X, X, X, X, X, X, X, X, X, X, X, X, X, X, X, X, X, X, X, X, X, X, X, X, X, X, X, X, X, X, X, X, X, O, O, O, O, O, O, O, O, O, O, O, O, O, O, O, O, O, O, O, O, O, O, O, O, O, O, O, O, O, O, O, O, O, O] rfl rfl HT_ (by kernel_rfl) (fun _ _ _ h => h) ⟨by rfl, ?_⟩ ?_ ?_
                                                    rotate_left
                                                    · intro w'; go_simp; with_reducible rfl
                                                    rotate_left
                                                    · simp only [sP]
                                                      rfl
                                                    refine pu (i := 34) (N := some 129) (v := ?_) (a' := ?_) #[X, X, X, X, X, X, X, X, X, X, X, X, X, X, X, X, X, X, X, X, X, X, X, X, X, X, X, X, X, X, X, X, X, X, X, O, O, O, O, O, O, O, O, O, O, O, O, O, O, O, O, O, O, O, O, O, O, O, O, O, O, O, O, O, O, O, O, O] rfl rfl HT_ (by kernel_rfl) (fun _ _ _ h => h) ⟨by rfl, ?_⟩ ?_ ?_
                                                    rotate_left
                                                    · intro w'; go_simp; with_reducible rfl
                                                    rotate_left
                                                    · simp only [sP]
                                                      rfl
                                                    refine pu (i := 35) (N := some 130) (v := ?_) (a' := ?_) #[X, X, X, X, X, X, X, X, X, X, X, X, X, X, X, X, X, X, X, X, X, X, X, X, X, X, X, X, X, X, X, X, X, X, X, X, O, O, O, O, O, O, O, O, O, O, O, O, O, O, O, O, O, O, O, O, O, O, O, O, O, O, O, O, O, O, O, O] rfl rfl HT_ (by kernel_rfl) (fun _ _ _ h => h) ⟨by rfl, ?_⟩ ?_ ?_
                                                    rotate_left
                                                    · intro w'; go_simp; with_reducible rfl
                                                    rotate_left
                                                    · simp only [sP]
                                                      rfl
                                                    refine pu (i := 36) (N := some 131) (v := ?_) (a' := ?_) #[X, X, X, X, X, X, X, X, X, X, X, X, X, X, X, X, X, X, X, X, X, X, X, X, X, X, X, X, X, X, X, X, X, X, X, X, X, O, O, O, O, O, O, O, O, O, O, O, O, O, O, O, O, O, O, O, O, O, O, O, O, O, O, O, O, O, O, O] rfl rfl HT_ (by kernel_rfl) (fun _ _ _ h => h) ⟨by rfl, ?_⟩ ?_ ?_
                                                    rotate_left
                                                    · intro w'; go_simp; with_reducible rfl
                                                    rotate_left
                                                    · simp only [sP]
                                                      rfl
                                                    refine tu (i := 37) (N := some 132) (v := ?_) (a' := ?_) #[X, X, X, X, X, X, X, X, X, X, X, X, X, X, X, X, X, X, X, X, X, X, X, X, X, X, X, X, X, X, X, X, X, X, X, X, X, X, O, O, O, O, O, O, O, O, O, O, O, O, O, O, O, O, O, O, O, O, O, O, O, O, O, O, O, O, O, O] rfl rfl HT_ HW_ (by kernel_rfl) (fun _ _ _ h => h) ⟨by rfl, ?_⟩ hHeld ?_ ?_
                                                    rotate_left
                                                    · rintro w' ⟨s0, s1, s2, s3, s4, s5, s6, s7, s8, s9, s10, s11, s12, s13, s14, s15, s16, s17, s18, s19, s20, s21⟩; go_simp; with_reducible rfl
                                                    rotate_left
                                                    · simp only [sP]
                                                      rfl
                                                    refine pu (i := 38) (N := some 133) (v := ?_) (a' := ?_) #[X, X, X, X, X, X, X, X, X, X, X, X, X, X, X, X, X, X, X, X, X, X, X, X, X, X, X, X, X, X, X, X, X, X, X, X, X, X, X, O, O, O, O, O, O, O, O, O, O, O, O, O, O, O, O, O, O, O, O, O, O, O, O, O, O, O, O, O] rfl rfl HT_ (by kernel_rfl) (fun _ _ _ h => h) ⟨by rfl, ?_⟩ ?_ ?_
                                                    rotate_left
                                                    · intro w'; go_simp; with_reducible rfl
                                                    rotate_left
                                                    · simp only [sP]
                                                      rfl
                                                    refine pu (i := 39) (N := some 134) (v := ?_) (a' := ?_) #[X, X, X, X, X, X, X, X, X, X, X, X, X, X, X, X, X, X, X, X, X, X, X, X, X, X, X, X, X, X, X, X, X, X, X, X, X, X, X, X, O, O, O, O, O, O, O, O, O, O, O, O, O, O, O, O, O, O, O, O, O, O, O, O, O, O, O, O] rfl rfl HT_ (by kernel_rfl) (fun _ _ _ h => h) ⟨by rfl, ?_⟩ ?_ ?_
                                                    rotate_left
                                                    · intro w'; go_simp; with_reducible rfl
                                                    rotate_left
                                                    · simp only [sP]
                                                      rfl
                                                    refine pu (i := 40) (N := some 135) (v := ?_) (a' := ?_) #[X, X, X, X, X, X, X, X, X, X, X, X, X, X, X, X, X, X, X, X, X, X, X, X, X, X, X, X, X, X, X, X, X, X, X, X, X, X, X, X, X, O, O, O, O, O, O, O, O, O, O, O, O, O, O, O, O, O, O, O, O, O, O, O, O, O, O, O] rfl rfl HT_ (by kernel_rfl) (fun _ _ _ h => h) ⟨by rfl, ?_⟩ ?_ ?_
                                                    rotate_left
                                                    · intro w'; go_simp; with_reducible rfl
                                                    rotate_left
                                                    · simp only [sP]
                                                      rfl
                                                    refine tu (i := 41) (N := some 136) (v := ?_) (a' := ?_) #[X, X, X, X, X, X, X, X, X, X, X, X, X, X, X, X, X, X, X, X, X, X, X, X, X, X, X, X, X, X, X, X, X, X, X, X, X, X, X, X, X, X, O, O, O, O, O, O, O, O, O, O, O, O, O, O, O, O, O, O, O, O, O, O, O, O, O, O] rfl rfl HT_ HW_ (by kernel_rfl) (fun _ _ _ h => h) ⟨by rfl, ?_⟩ hHeld ?_ ?_
                                                    rotate_left
                                                    · rintro w' ⟨s0, s1, s2, s3, s4, s5, s6, s7, s8, s9, s10, s11, s12, s13, s14, s15, s16, s17, s18, s19, s20, s21⟩; go_simp; with_reducible rfl
                                                    rotate_left
                                                    · simp only [sP]
                                                      rfl
                                                    refine tu (i := 42) (N := some 137) (v := ?_) (a' := ?_) #[X, X, X, X, X, X, X, X, X, X, X, X, X, X, X, X, X, X, X, X, X, X, X, X, X, X, X, X, X, X, X, X, X, X, X, X, X, X, X, X, X, X, X, O, O, O, O, O, O, O, O, O, O, O, O, O, O, O, O, O, O, O, O, O, O, O, O, O] rfl rfl HT_ HW_ (by kernel_rfl) (fun _ _ _ h => h) ⟨by rfl, ?_⟩ hHeld ?_ ?_
                                                    rotate_left
                                                    · rintro w' ⟨s0, s1, s2, s3, s4, s5, s6, s7, s8, s9, s10, s11, s12, s13, s14, s15, s16, s17, s18, s19, s20, s21⟩; go_simp; with_reducible rfl
                                                    rotate_left
                                                    · simp only [sP]
                                                      rfl
                                                    refine one_ (i := 43) (N := some 138) #[X, X, X, X, X, X, X, X, X, X, X, X, X, X, X, X, X, X, X, X, X, X, X, X, X, X, X, X, X, X, X, X, X, X, X, X, X, X, X, X, X, X, X, X, O, O, O, O, O, O, O, O, O, O, O, O, O, O, O, O, O, O, O, O, O, O, O, O] rfl rfl (one_of HT_.out (by kernel_rfl)) (by decide) (fun K hK => ?_)
                                                    refine goes_ Try.func24 (by kernel_rfl) rfl #[.agg #[.int .i64 t259, .int .i64 t260, .slice Ao29 t261.length co29], .agg #[.int .i64 70, .int .i64 0, .slice (some ad301) y251.length co16]] (by rfl) rfl rfl (by (try simp only [sM]); first | done | rfl | (simp only [sT]; rfl)) ?_
                                                    with_reducible refine (twoslotref15_Same.calls kj9 t259 t260 _ _ t261 70 0 _ _ y251 true _ ?side1 ?side2 ?side3 ?side4 A74.out).mono ?_
                                                    (case side1 => exact sC (Kd.R_reads' HO_266002.out).2.2)
                                                    (case side2 => exact (Kd.R_reads' HO_266002.out).2.1)
                                                    (case side3 => exact sC (Kd.R_reads' HO_255002.out).2.2)
                                                    (case side4 => exact (Kd.R_reads' HO_255002.out).2.1)
                                                    rintro e w83 ⟨rfl, hb⟩
                                                    have HS10_ := (hb.cell (World.block_lt_of_cell? _ _ (hHeld.2.2.2.2.2.2.2.2.2.2.1))).trans (hHeld.2.2.2.2.2.2.2.2.2.2.1)
                                                    have HS11_ := (hb.cell (World.block_lt_of_cell? _ _ (hHeld.2.2.2.2.2.2.2.2.2.2.2.1))).trans (hHeld.2.2.2.2.2.2.2.2.2.2.2.1)
                                                    have HS12_ := (hb.cell (World.block_lt_of_cell? _ _ (hHeld.2.2.2.2.2.2.2.2.2.2.2.2.1))).trans (hHeld.2.2.2.2.2.2.2.2.2.2.2.2.1)
                                                    have HS13_ := (hb.cell (World.block_lt_of_cell? _ _ (hHeld.2.2.2.2.2.2.2.2.2.2.2.2.2.1))).trans (hHeld.2.2.2.2.2.2.2.2.2.2.2.2.2.1)
                                                    have HS14_ := (hb.cell (World.block_lt_of_cell? _ _ (hHeld.2.2.2.2.2.2.2.2.2.2.2.2.2.2.1))).trans (hHeld.2.2.2.2.2.2.2.2.2.2.2.2.2.2.1)
                                                    have HS15_ := (hb.cell (World.block_lt_of_cell? _ _ (hHeld.2.2.2.2.2.2.2.2.2.2.2.2.2.2.2.1))).trans (hHeld.2.2.2.2.2.2.2.2.2.2.2.2.2.2.2.1)
                                                    have HS16_ := (hb.cell (World.block_lt_of_cell? _ _ (hHeld.2.2.2.2.2.2.2.2.2.2.2.2.2.2.2.2.1))).trans (hHeld.2.2.2.2.2.2.2.2.2.2.2.2.2.2.2.2.1)
                                                    have HS17_ := (hb.cell (World.block_lt_of_cell? _ _ (hHeld.2.2.2.2.2.2.2.2.2.2.2.2.2.2.2.2.2.1))).trans (hHeld.2.2.2.2.2.2.2.2.2.2.2.2.2.2.2.2.2.1)
                                                    have HS18_ := (hb.cell (World.block_lt_of_cell? _ _ (hHeld.2.2.2.2.2.2.2.2.2.2.2.2.2.2.2.2.2.2.1))).trans (hHeld.2.2.2.2.2.2.2.2.2.2.2.2.2.2.2.2.2.2.1)
                                                    have HS19_ := (hb.cell (World.block_lt_of_cell? _ _ (hHeld.2.2.2.2.2.2.2.2.2.2.2.2.2.2.2.2.2.2.2.1))).trans (hHeld.2.2.2.2.2.2.2.2.2.2.2.2.2.2.2.2.2.2.2.1)
                                                    have HS20_ := (hb.cell (World.block_lt_of_cell? _ _ (hHeld.2.2.2.2.2.2.2.2.2.2.2.2.2.2.2.2.2.2.2.2.1))).trans (hHeld.2.2.2.2.2.2.2.2.2.2.2.2.2.2.2.2.2.2.2.2.1)
                                                    have HS21_ := (hb.cell (World.block_lt_of_cell? _ _ (hHeld.2.2.2.2.2.2.2.2.2.2.2.2.2.2.2.2.2.2.2.2.2))).trans (hHeld.2.2.2.2.2.2.2.2.2.2.2.2.2.2.2.2.2.2.2.2.2)
                                                    refine ⟨_, rfl, ?_⟩
                                                    replace HO_3 := Aside0.mk (Kd.R_below (sR HO_3.out) hb); replace HO_7 := Aside0.mk (Kd.R_below (sR HO_7.out) hb); replace HO_9 := Aside0.mk (Kd.R_below (sR HO_9.out) hb); replace HO_255002 := Aside0.mk (Kd.R_below (sR HO_255002.out) hb); replace HO_266002 := Aside0.mk (Kd.R_below (sR HO_266002.out) hb); replace HO_292002 := Aside0.mk (Kd.R_below (sR HO_292002.out) hb); replace BK250 := kB BK250 hb; replace BK254 := kB BK254 hb; replace BK265 := kB BK265 hb; replace BK291 := kB BK291 hb; replace HB := Aside0.mk (below_step (by repeat (first | exact sH HB.out | refine sN (w := w) ?_ | with_reducible refine sG (w := w) ?_ (by assumption))) hb)
                                                    (try clear hb)
                                                    (try clear hb2)
                                                    (try clear hk)
                                                    (try clear hi)
                                                    obtain ⟨Ao84, co84, eo84⟩ := Kd.R_slice HO_9.out
                                                    (first | subst eo84 | (injection eo84 with f1_ f2_ f3_; have f4_ := f1_.symm; have f5_ := f3_.symm; clear f1_ f2_ f3_; subst f4_; subst f5_))
                                                    refine hK.out _ _ ⟨(blk_cell BK265.out 0).trans rfl, (blk_cell BK265.out 1).trans rfl, (blk_cell BK265.out 2).trans rfl, (blk_cell BK254.out 0).trans rfl, (blk_cell BK254.out 1).trans rfl, (blk_cell BK254.out 2).trans rfl, (blk_cell BK250.out 0).trans rfl, (blk_cell BK250.out 1).trans rfl, (blk_cell BK250.out 2).trans rfl, (blk_cell BK250.out 3).trans rfl, HS10_, HS11_, HS12_, HS13_, HS14_, HS15_, HS16_, HS17_, HS18_, HS19_, HS20_, HS21_⟩ (fun hHeld => ?_)
                                                    clear hK K
                                                    refine norm_ (a' := ?_) ?_ ?_
                                                    rotate_left
                                                    · show Act.put _ (some 138) _ = _
                                                      simp only [sP]
                                                      rfl
                                                    refine pu (i := 44) (N := some 139) (v := ?_) (a' := ?_) #[X, X, X, X, X, X, X, X, X, X, X, X, X, X, X, X, X, X, X, X, X, X, X, X, X, X, X, X, X, X, X, X, X, X, X, X, X, X, X, X, X, X, X, X, X, O, O, O, O, O, O, O, O, O, O, O, O, O, O, O, O, O, O, O, O, O, O, O] rfl rfl HT_ (by kernel_rfl) (fun _ _ _ h => h) ⟨by rfl, ?_⟩ ?_ ?_
                                                    rotate_left
                                                    · intro w'; go_simp; with_reducible rfl
                                                    rotate_left
                                                    · simp only [sP]
                                                      rfl
                                                    refine pu (i := 45) (N := some 140) (v := ?_) (a' := ?_) #[X, X, X, X, X, X, X, X, X, X, X, X, X, X, X, X, X, X, X, X, X, X, X, X, X, X, X, X, X, X, X, X, X, X, X, X, X, X, X, X, X, X, X, X, X, X, O, O, O, O, O, O, O, O, O, O, O, O, O, O, O, O, O, O, O, O, O, O] rfl rfl HT_ (by kernel_rfl) (fun _ _ _ h => h) ⟨by rfl, ?_⟩ ?_ ?_
                                                    rotate_left
                                                    · intro w'; go_simp; with_reducible rfl
                                                    rotate_left
                                                    · simp only [sP]
                                                      rfl
                                                    refine pu (i := 46) (N := some 141) (v := ?_) (a' := ?_) #[X, X, X, X, X, X, X, X, X, X, X, X, X, X, X, X, X, X, X, X, X, X, X, X, X, X, X, X, X, X, X, X, X, X, X, X, X, X, X, X, X, X, X, X, X, X, X, O, O, O, O, O, O, O, O, O, O, O, O, O, O, O, O, O, O, O, O, O] rfl rfl HT_ (by kernel_rfl) (fun _ _ _ h => h) ⟨by rfl, ?_⟩ ?_ ?_
                                                    rotate_left
                                                    · intro w'; go_simp; with_reducible rfl
                                                    rotate_left
                                                    · simp only [sP]
                                                      rfl
                                                    refine pu (i := 47) (N := some 142) (v := ?_) (a' := ?_) #[X, X, X, X, X, X, X, X, X, X, X, X, X, X, X, X, X, X, X, X, X, X, X, X, X, X, X, X, X, X, X, X, X, X, X, X, X, X, X, X, X, X, X, X, X, X, X, X, O, O, O, O, O, O, O, O, O, O, O, O, O, O, O, O, O, O, O, O] rfl rfl HT_ (by kernel_rfl) (fun _ _ _ h => h) ⟨by rfl, ?_⟩ ?_ ?_
                                                    rotate_left
                                                    · intro w'; go_simp; with_reducible rfl
                                                    rotate_left
                                                    · simp only [sP]
                                                      rfl
                                                    refine pu (i := 49) (N := some 144) (v := ?_) (a' := ?_) #[X, X, X, X, X, X, X, X, X, X, X, X, X, X, X, X, X, X, X, X, X, X, X, X, X, X, X, X, X, X, X, X, X, X, X, X, X, X, X, X, X, X, X, X, X, X, X, X, O, X, O, O, O, O, O, O, O, O, O, O, O, O, O, O, O, O, O, O] rfl rfl HT_ (by kernel_rfl) (fun _ _ _ h => h) ⟨by rfl, ?_⟩ ?_ ?_
                                                    rotate_left
                                                    · intro w'; go_simp; with_reducible rfl
                                                    rotate_left
                                                    · simp only [sP]
                                                      rfl
                                                    refine tu (i := 48) (N := some 143) (v := ?_) (a' := ?_) #[X, X, X, X, X, X, X, X, X, X, X, X, X, X, X, X, X, X, X, X, X, X, X, X, X, X, X, X, X, X, X, X, X, X, X, X, X, X, X, X, X, X, X, X, X, X, X, X, X, X, O, O, O, O, O, O, O, O, O, O, O, O, O, O, O, O, O, O] rfl rfl HT_ HW_ (by kernel_rfl) (fun _ _ _ h => h) ⟨by rfl, ?_⟩ hHeld ?_ ?_
                                                    rotate_left
                                                    · rintro w' ⟨s0, s1, s2, s3, s4, s5, s6, s7, s8, s9, s10, s11, s12, s13, s14, s15, s16, s17, s18, s19, s20, s21⟩; go_simp; with_reducible rfl
                                                    rotate_left
                                                    · simp only [sP]
                                                      rfl
                                                    refine tu (i := 50) (N := some 145) (v := ?_) (a' := ?_) #[X, X, X, X, X, X, X, X, X, X, X, X, X, X, X, X, X, X, X, X, X, X, X, X, X, X, X, X, X, X, X, X, X, X, X, X, X, X, X, X, X, X, X, X, X, X, X, X, X, X, X, O, O, O, O, O, O, O, O, O, O, O, O, O, O, O, O, O] rfl rfl HT_ HW_ (by kernel_rfl) (fun _ _ _ h => h) ⟨by rfl, ?_⟩ hHeld ?_ ?_
                                                    rotate_left
                                                    · rintro w' ⟨s0, s1, s2, s3, s4, s5, s6, s7, s8, s9, s10, s11, s12, s13, s14, s15, s16, s17, s18, s19, s20, s21⟩; go_simp; with_reducible rfl
                                                    rotate_left
                                                    · simp only [sP]
                                                      rfl
                                                    refine pu (i := 51) (N := some 146) (v := ?_) (a' := ?_) #[X, X, X, X, X, X, X, X, X, X, X, X, X, X, X, X, X, X, X, X, X, X, X, X, X, X, X, X, X, X, X, X, X, X, X, X, X, X, X, X, X, X, X, X, X, X, X, X, X, X, X, X, O, O, O, O, O, O, O, O, O, O, O, O, O, O, O, O] rfl rfl HT_ (by kernel_rfl) (fun _ _ _ h => h) ⟨by rfl, ?_⟩ ?_ ?_
                                                    rotate_left
                                                    · intro w'; go_simp; with_reducible rfl
                                                    rotate_left
                                                    · simp only [sP]
                                                      rfl
                                                    refine tu (i := 52) (N := some 147) (v := ?_) (a' := ?_) #[X, X, X, X, X, X, X, X, X, X, X, X, X, X, X, X, X, X, X, X, X, X, X, X, X, X, X, X, X, X, X, X, X, X, X, X, X, X, X, X, X, X, X, X, X, X, X, X, X, X, X, X, X, O, O, O, O, O, O, O, O, O, O, O, O, O, O, O] rfl rfl HT_ HW_ (by kernel_rfl) (fun _ _ _ h => h) ⟨by rfl, ?_⟩ hHeld ?_ ?_
                                                    rotate_left
                                                    · rintro w' ⟨s0, s1, s2, s3, s4, s5, s6, s7, s8, s9, s10, s11, s12, s13, s14, s15, s16, s17, s18, s19, s20, s21⟩; go_simp; with_reducible rfl
                                                    rotate_left
                                                    · simp only [sP]
                                                      rfl
                                                    refine pu (i := 53) (N := some 148) (v := ?_) (a' := ?_) #[X, X, X, X, X, X, X, X, X, X, X, X, X, X, X, X, X, X, X, X, X, X, X, X, X, X, X, X, X, X, X, X, X, X, X, X, X, X, X, X, X, X, X, X, X, X, X, X, X, X, X, X, X, X, O, O, O, O, O, O, O, O, O, O, O, O, O, O] rfl rfl HT_ (by kernel_rfl) (fun _ _ _ h => h) ⟨by rfl, ?_⟩ ?_ ?_
                                                    rotate_left
                                                    · intro w'; go_simp; with_reducible rfl
                                                    rotate_left
                                                    · simp only [sP]
                                                      rfl
                                                    refine pu (i := 54) (N := some 149) (v := ?_) (a' := ?_) #[X, X, X, X, X, X, X, X, X, X, X, X, X, X, X, X, X, X, X, X, X, X, X, X, X, X, X, X, X, X, X, X, X, X, X, X, X, X, X, X, X, X, X, X, X, X, X, X, X, X, X, X, X, X, X, O, O, O, O, O, O, O, O, O, O, O, O, O] rfl rfl HT_ (by kernel_rfl) (fun _ _ _ h => h) ⟨by rfl, ?_⟩ ?_ ?_
                                                    rotate_left
                                                    · intro w'; go_simp; with_reducible rfl
                                                    rotate_left
                                                    · simp only [sP]
                                                      rfl
                                                    refine pu (i := 55) (N := some 150) (v := ?_) (a' := ?_) #[X, X, X, X, X, X, X, X, X, X, X, X, X, X, X, X, X, X, X, X, X, X, X, X, X, X, X, X, X, X, X, X, X, X, X, X, X, X, X, X, X, X, X, X, X, X, X, X, X, X, X, X, X, X, X, X, O, O, O, O, O, O, O, O, O, O, O, O] rfl rfl HT_ (by kernel_rfl) (fun _ _ _ h => h) ⟨by rfl, ?_⟩ ?_ ?_
                                                    rotate_left
                                                    · intro w'; go_simp; with_reducible rfl
                                                    rotate_left
                                                    · simp only [sP]
                                                      rfl
                                                    refine pu (i := 56) (N := some 151) (v := ?_) (a' := ?_) #[X, X, X, X, X, X, X, X, X, X, X, X, X, X, X, X, X, X, X, X, X, X, X, X, X, X, X, X, X, X, X, X, X, X, X, X, X, X, X, X, X, X, X, X, X, X, X, X, X, X, X, X, X, X, X, X, X, O, O, O, O, O, O, O, O, O, O, O] rfl rfl HT_ (by kernel_rfl) (fun _ _ _ h => h) ⟨by rfl, ?_⟩ ?_ ?_
                                                    rotate_left
                                                    · intro w'; go_simp; with_reducible rfl
                                                    rotate_left
                                                    · simp only [sP]
                                                      rfl
                                                    refine pu (i := 57) (N := some 152) (v := ?_) (a' := ?_) #[X, X, X, X, X, X, X, X, X, X, X, X, X, X, X, X, X, X, X, X, X, X, X, X, X, X, X, X, X, X, X, X, X, X, X, X, X, X, X, X, X, X, X, X, X, X, X, X, X, X, X, X, X, X, X, X, X, X, O, O, O, O, O, O, O, O, O, O] rfl rfl HT_ (by kernel_rfl) (fun _ _ _ h => h) ⟨by rfl, ?_⟩ ?_ ?_
                                                    rotate_left
                                                    · intro w'; go_simp; with_reducible rfl
                                                    rotate_left
                                                    · simp only [sP]
                                                      rfl
                                                    refine tu (i := 58) (N := some 153) (v := ?_) (a' := ?_) #[X, X, X, X, X, X, X, X, X, X, X, X, X, X, X, X, X, X, X, X, X, X, X, X, X, X, X, X, X, X, X, X, X, X, X, X, X, X, X, X, X, X, X, X, X, X, X, X, X, X, X, X, X, X, X, X, X, X, X, O, O, O, O, O, O, O, O, O] rfl rfl HT_ HW_ (by kernel_rfl) (fun _ _ _ h => h) ⟨by rfl, ?_⟩ hHeld ?_ ?_
                                                    rotate_left
                                                    · rintro w' ⟨s0, s1, s2, s3, s4, s5, s6, s7, s8, s9, s10, s11, s12, s13, s14, s15, s16, s17, s18, s19, s20, s21⟩; go_simp; with_reducible rfl
                                                    rotate_left
                                                    · simp only [sP]
                                                      rfl
                                                    refine pu (i := 59) (N := some 154) (v := ?_) (a' := ?_) #[X, X, X, X, X, X, X, X, X, X, X, X, X, X, X, X, X, X, X, X, X, X, X, X, X, X, X, X, X, X, X, X, X, X, X, X, X, X, X, X, X, X, X, X, X, X, X, X, X, X, X, X, X, X, X, X, X, X, X, X, O, O, O, O, O, O, O, O] rfl rfl HT_ (by kernel_rfl) (fun _ _ _ h => h) ⟨by rfl, ?_⟩ ?_ ?_
                                                    rotate_left
                                                    · intro w'; go_simp; with_reducible rfl
                                                    rotate_left
                                                    · simp only [sP]
                                                      rfl
                                                    refine pu (i := 60) (N := some 155) (v := ?_) (a' := ?_) #[X, X, X, X, X, X, X, X, X, X, X, X, X, X, X, X, X, X, X, X, X, X, X, X, X, X, X, X, X, X, X, X, X, X, X, X, X, X, X, X, X, X, X, X, X, X, X, X, X, X, X, X, X, X, X, X, X, X, X, X, X, O, O, O, O, O, O, O] rfl rfl HT_ (by kernel_rfl) (fun _ _ _ h => h) ⟨by rfl, ?_⟩ ?_ ?_
                                                    rotate_left
                                                    · intro w'; go_simp; with_reducible rfl
                                                    rotate_left
                                                    · simp only [sP]
                                                      rfl
                                                    refine pu (i := 61) (N := some 156) (v := ?_) (a' := ?_) #[X, X, X, X, X, X, X, X, X, X, X, X, X, X, X, X, X, X, X, X, X, X, X, X, X, X, X, X, X, X, X, X, X, X, X, X, X, X, X, X, X, X, X, X, X, X, X, X, X, X, X, X, X, X, X, X, X, X, X, X, X, X, O, O, O, O, O, O] rfl rfl HT_ (by kernel_rfl) (fun _ _ _ h => h) ⟨by rfl, ?_⟩ ?_ ?_
                                                    rotate_left
                                                    · intro w'; go_simp; with_reducible rfl
                                                    rotate_left
                                                    · simp only [sP]
                                                      rfl
                                                    refine pu (i := 63) (N := some 158) (v := ?_) (a' := ?_) #[X, X, X, X, X, X, X, X, X, X, X, X, X, X, X, X, X, X, X, X, X, X, X, X, X, X, X, X, X, X, X, X, X, X, X, X, X, X, X, X, X, X, X, X, X, X, X, X, X, X, X, X, X, X, X, X, X, X, X, X, X, X, O, X, O, O, O, O] rfl rfl HT_ (by kernel_rfl) (fun _ _ _ h => h) ⟨by rfl, ?_⟩ ?_ ?_
                                                    rotate_left
                                                    · intro w'; go_simp; with_reducible rfl
                                                    rotate_left
                                                    · simp only [sP]
                                                      rfl
                                                    refine tu (i := 62) (N := some 157) (v := ?_) (a' := ?_) #[X, X, X, X, X, X, X, X, X, X, X, X, X, X, X, X, X, X, X, X, X, X, X, X, X, X, X, X, X, X, X, X, X, X, X, X, X, X, X, X, X, X, X, X, X, X, X, X, X, X, X, X, X, X, X, X, X, X, X, X, X, X, X, X, O, O, O, O] rfl rfl HT_ HW_ (by kernel_rfl) (fun _ _ _ h => h) ⟨by rfl, ?_⟩ hHeld ?_ ?_
                                                    rotate_left
                                                    · rintro w' ⟨s0, s1, s2, s3, s4, s5, s6, s7, s8, s9, s10, s11, s12, s13, s14, s15, s16, s17, s18, s19, s20, s21⟩; go_simp; with_reducible rfl
                                                    rotate_left
                                                    · simp only [sP]
                                                      rfl
                                                    refine one_ (i := 64) (N := some 159) #[X, X, X, X, X, X, X, X, X, X, X, X, X, X, X, X, X, X, X, X, X, X, X, X, X, X, X, X, X, X, X, X, X, X, X, X, X, X, X, X, X, X, X, X, X, X, X, X, X, X, X, X, X, X, X, X, X, X, X, X, X, X, X, X, X, O, O, O] rfl rfl (one_of HT_.out (by kernel_rfl)) (by decide) (fun K hK => ?_)
                                                    refine goes_ Try.func12 (by kernel_rfl) rfl #[.agg #[.int .i64 t246, .int .i64 t247, .int .i64 t248, .int .i64 t249], .agg #[.int .i64 70, .int .i64 0, .slice none 0 0]] (by rfl) rfl rfl (by (try simp only [sM]); first | done | rfl | (simp only [sT]; rfl)) ?_
                                                    refine (desc_Check.calls kj9 t246 t247 t248 t249 70 0 _ _ ([] : List (S27)) t303 _ ?side1 ?side2 A81.out).mono ?_
                                                    (case side1 => exact Kd.C_nil _ _)
                                                    (case side2 => exact Nat.le_refl _)
                                                    rintro e w85 ⟨rfl, hb⟩
                                                    have HS10_ := (hb.cell (World.block_lt_of_cell? _ _ (hHeld.2.2.2.2.2.2.2.2.2.2.1))).trans (hHeld.2.2.2.2.2.2.2.2.2.2.1)
                                                    have HS11_ := (hb.cell (World.block_lt_of_cell? _ _ (hHeld.2.2.2.2.2.2.2.2.2.2.2.1))).trans (hHeld.2.2.2.2.2.2.2.2.2.2.2.1)
                                                    have HS12_ := (hb.cell (World.block_lt_of_cell? _ _ (hHeld.2.2.2.2.2.2.2.2.2.2.2.2.1))).trans (hHeld.2.2.2.2.2.2.2.2.2.2.2.2.1)
                                                    have HS13_ := (hb.cell (World.block_lt_of_cell? _ _ (hHeld.2.2.2.2.2.2.2.2.2.2.2.2.2.1))).trans (hHeld.2.2.2.2.2.2.2.2.2.2.2.2.2.1)
                                                    have HS14_ := (hb.cell (World.block_lt_of_cell? _ _ (hHeld.2.2.2.2.2.2.2.2.2.2.2.2.2.2.1))).trans (hHeld.2.2.2.2.2.2.2.2.2.2.2.2.2.2.1)
                                                    have HS15_ := (hb.cell (World.block_lt_of_cell? _ _ (hHeld.2.2.2.2.2.2.2.2.2.2.2.2.2.2.2.1))).trans (hHeld.2.2.2.2.2.2.2.2.2.2.2.2.2.2.2.1)
                                                    have HS16_ := (hb.cell (World.block_lt_of_cell? _ _ (hHeld.2.2.2.2.2.2.2.2.2.2.2.2.2.2.2.2.1))).trans (hHeld.2.2.2.2.2.2.2.2.2.2.2.2.2.2.2.2.1)
                                                    have HS17_ := (hb.cell (World.block_lt_of_cell? _ _ (hHeld.2.2.2.2.2.2.2.2.2.2.2.2.2.2.2.2.2.1))).trans (hHeld.2.2.2.2.2.2.2.2.2.2.2.2.2.2.2.2.2.1)
                                                    have HS18_ := (hb.cell (World.block_lt_of_cell? _ _ (hHeld.2.2.2.2.2.2.2.2.2.2.2.2.2.2.2.2.2.2.1))).trans (hHeld.2.2.2.2.2.2.2.2.2.2.2.2.2.2.2.2.2.2.1)
                                                    have HS19_ := (hb.cell (World.block_lt_of_cell? _ _ (hHeld.2.2.2.2.2.2.2.2.2.2.2.2.2.2.2.2.2.2.2.1))).trans (hHeld.2.2.2.2.2.2.2.2.2.2.2.2.2.2.2.2.2.2.2.1)
                                                    have HS20_ := (hb.cell (World.block_lt_of_cell? _ _ (hHeld.2.2.2.2.2.2.2.2.2.2.2.2.2.2.2.2.2.2.2.2.1))).trans (hHeld.2.2.2.2.2.2.2.2.2.2.2.2.2.2.2.2.2.2.2.2.1)
                                                    have HS21_ := (hb.cell (World.block_lt_of_cell? _ _ (hHeld.2.2.2.2.2.2.2.2.2.2.2.2.2.2.2.2.2.2.2.2.2))).trans (hHeld.2.2.2.2.2.2.2.2.2.2.2.2.2.2.2.2.2.2.2.2.2)
                                                    refine ⟨_, rfl, ?_⟩
                                                    replace HO_3 := Aside0.mk (Kd.R_below (sR HO_3.out) hb); replace HO_7 := Aside0.mk (Kd.R_below (sR HO_7.out) hb); replace HO_9 := Aside0.mk (Kd.R_below (sR HO_9.out) hb); replace HO_255002 := Aside0.mk (Kd.R_below (sR HO_255002.out) hb); replace HO_266002 := Aside0.mk (Kd.R_below (sR HO_266002.out) hb); replace HO_292002 := Aside0.mk (Kd.R_below (sR HO_292002.out) hb); replace BK250 := kB BK250 hb; replace BK254 := kB BK254 hb; replace BK265 := kB BK265 hb; replace BK291 := kB BK291 hb; replace HB := Aside0.mk (below_step (by repeat (first | exact sH HB.out | refine sN (w := w) ?_ | with_reducible refine sG (w := w) ?_ (by assumption))) hb)
                                                    (try clear hb)
                                                    (try clear hb2)
                                                    (try clear hk)
                                                    (try clear hi)
                                                    refine hK.out _ _ ⟨(blk_cell BK265.out 0).trans rfl, (blk_cell BK265.out 1).trans rfl, (blk_cell BK265.out 2).trans rfl, (blk_cell BK254.out 0).trans rfl, (blk_cell BK254.out 1).trans rfl, (blk_cell BK254.out 2).trans rfl, (blk_cell BK250.out 0).trans rfl, (blk_cell BK250.out 1).trans rfl, (blk_cell BK250.out 2).trans rfl, (blk_cell BK250.out 3).trans rfl, HS10_, HS11_, HS12_, HS13_, HS14_, HS15_, HS16_, HS17_, HS18_, HS19_, HS20_, HS21_⟩ (fun hHeld => ?_)
                                                    clear hK K
                                                    refine norm_ (a' := ?_) ?_ ?_
                                                    rotate_left
                                                    · show Act.put _ (some 159) _ = _
                                                      simp only [sP]
                                                      rfl
                                                    refine pu (i := 65) (N := some 160) (v := ?_) (a' := ?_) #[X, X, X, X, X, X, X, X, X, X, X, X, X, X, X, X, X, X, X, X, X, X, X, X, X, X, X, X, X, X, X, X, X, X, X, X, X, X, X, X, X, X, X, X, X, X, X, X, X, X, X, X, X, X, X, X, X, X, X, X, X, X, X, X, X, X, O, O] rfl rfl HT_ (by kernel_rfl) (fun _ _ _ h => h) ⟨by rfl, ?_⟩ ?_ ?_
                                                    rotate_left
                                                    · intro w'; go_simp; with_reducible rfl
                                                    rotate_left
                                                    · simp only [sP]
                                                      rfl
                                                    refine pu (i := 66) (N := some 161) (v := ?_) (a' := ?_) #[X, X, X, X, X, X, X, X, X, X, X, X, X, X, X, X, X, X, X, X, X, X, X, X, X, X, X, X, X, X, X, X, X, X, X, X, X, X, X, X, X, X, X, X, X, X, X, X, X, X, X, X, X, X, X, X, X, X, X, X, X, X, X, X, X, X, X, O] rfl rfl HT_ (by kernel_rfl) (fun _ _ _ h => h) ⟨by rfl, ?_⟩ ?_ ?_
                                                    rotate_left
                                                    · intro w'; go_simp; with_reducible rfl
                                                    rotate_left
                                                    · simp only [sP]
                                                      rfl
                                                    refine pu (i := 67) (N := some 0) (v := ?_) (a' := ?_) #[X, X, X, X, X, X, X, X, X, X, X, X, X, X, X, X, X, X, X, X, X, X, X, X, X, X, X, X, X, X, X, X, X, X, X, X, X, X, X, X, X, X, X, X, X, X, X, X, X, X, X, X, X, X, X, X, X, X, X, X, X, X, X, X, X, X, X, X] rfl rfl HT_ (by kernel_rfl) (fun _ _ _ h => h) ⟨by rfl, ?_⟩ ?_ ?_
                                                    rotate_left
                                                    · intro w'; go_simp; with_reducible rfl
                                                    rotate_left
                                                    · simp only [sP]
                                                      rfl
                                                    refine done_ (done_of HT_.out (by kernel_rfl)) ?_
                                                    try go_wp2
                                                    go_ret
                                                    exact ⟨by first | rfl | (simp [errW_none, errW_some] <;> rfl) | (simp [*, errW_none, errW_some] <;> rfl), by repeat (first | exact sH HB.out | refine sN (w := w) ?_ | with_reducible refine sG (w := w) ?_ (by assumption))⟩
                                                  · rw [if_neg c80] at H
                                                    exact absurd H (by simp)
                                                · rw [if_neg c79] at H
                                                  exact absurd H (by simp)
                                              · rw [if_neg c78] at H
                                                exact absurd H (by simp)
                                            · rw [if_neg c77] at H
                                              exact absurd H (by simp)
                                          · rw [if_neg c76] at H
                                            exact absurd H (by simp)
                                        · replace c75 := Bool.eq_false_iff.mpr c75
                                          subst c75
                                          have H1 : (none) = some r := by rw [if_neg (show ¬ (false = true) by decide)] at H; exact H
                                          clear H
                                          have H := H1
                                          clear H1
                                          exact absurd H (by simp)
                                      · rw [if_neg c73] at H
                                        exact absurd H (by simp)
                                    · rw [if_neg c72] at H
                                      exact absurd H (by simp)
                                  · rw [if_neg c71] at H
                                    exact absurd H (by simp)
                                · rw [if_neg c70] at H
                                  exact absurd H (by simp)
                              · rw [if_neg c69] at H
                                exact absurd H (by simp)
                            · rw [if_neg c68] at H
                              exact absurd H (by simp)
                          · rw [if_neg c67] at H
                            exact absurd H (by simp)
                        · rw [if_neg c66] at H
                          exact absurd H (by simp)
                      · rw [if_neg c65] at H
                        exact absurd H (by simp)
                    · rw [if_neg c64] at H
                      exact absurd H (by simp)
                  · rw [if_neg c63] at H
                    exact absurd H (by simp)
                · rw [if_neg c62] at H
                  exact absurd H (by simp)
              · rw [if_neg c61] at H
                exact absurd H (by simp)
            · rw [if_neg c60] at H
              exact absurd H (by simp)
    · rw [if_neg c8] at H
      exact absurd H (by simp)
  · rw [if_neg c4] at H
    exact absurd H (by simp)

end Go.Proofs.Ytdpllcmpndcbnaa.P
