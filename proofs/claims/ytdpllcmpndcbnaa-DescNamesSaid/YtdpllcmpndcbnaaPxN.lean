-- Written by a program of this session, after the kit's print.
import Derived.Test.YtdpllcmpndcbnaaPx0
import Derived.Test.YtdpllcmpndcbnaaP0Short
import Derived.Test.YtdpllcmpndcbnaaPx1
import Derived.Test.YtdpllcmpndcbnaaPx2
import Derived.Test.YtdpllcmpndcbnaaPx3
import Derived.Test.YtdpllcmpndcbnaaPx4
import Derived.Test.YtdpllcmpndcbnaaPx5
import Derived.Test.YtdpllcmpndcbnaaPx6
import Derived.Test.YtdpllcmpndcbnaaPx8
namespace Go.Proofs.Ytdpllcmpndcbnaa.P
open Go.RowKit Go.Proofs.YtdpllcmpndcbnaaW.PrintWords Go.Proofs.YtdpllcmpndcbnaaW.PrintLast Go.Proofs.YtdpllcmpndcbnaaW.PrintMore
attribute [local go_sem] max2_int min2_int max_two min_two max_three min_three max_four min_four   -- for this text's walks alone
set_option linter.unusedVariables false
set_option linter.unusedSimpArgs false

attribute [local go_sem high] eqA27
theorem grow_cut2 {W : World} {base : Nat} {ok : Nat → Prop} {A : Option Addr} {c : Nat} {l : List S27} (W' : World) (ho : Kd.R k27 27 W base ok (.slice A l.length c) l) {n : Nat} {k : Int} (hn : l.length = n) (h0 : 0 < n) (hk : k = (n : Int)) : (Instr.slice 28 (.slice A l.length c) none (some (.int .i64 k)) (some (.int .i64 k))).run Try.prog W' = .ok (.slice A n n) W' := by
  obtain ⟨g, cap, e, _, _, _⟩ := Kd.R_form ho (by omega)
  injection e with ea _ _
  have hc := (Kd.R_reads' ho).2.1
  rw [grow_cut W' A l.length n c (by omega) (by omega) k hk, if_neg (by omega), ea]
  show Result.ok (Value.slice (some ((⟨g, 0, none⟩ : Addr).add 0)) n n) W' = _
  rw [add_plain]
theorem grow_step {ops : Array Oper} {Q : Exit → Act → World → Prop} {o : Oper} {a : Act} {W W1 : World} {v : Value} {K : Act → World → Prop} (hw : Region.wanted o (yielded ops a.tmps) = true) (N : Tmp) (hd : o.dst = some N) (s x : Operand) (ho : o.op = .call { callee := .builtin .append, args := #[s, x], argTypes := #[28, 28] }) (hty : o.type = 28) (v1 v2 : Value) (hs : a.eval s = v1) (hx : a.eval x = v2)
    (hrun : (Builtin.append_ #[28, 28] 28 #[v1, v2]).run Try.prog W = .ok v W1) (h : K (a.put (some N) v) W1) : if Region.wanted o (yielded ops a.tmps) = true then Oper.wp Try.prog o a W K Q else K (a.put (some N) undef) W := by
  refine value_ hw hd ?_ h
  unfold execOp
  simp only [ho, resolve, invoke, builtin, Sem.run_bind, Sem.run_pure, Result.andThen_ok, List.map_toArray, List.map_cons, List.map_nil, hs, hx, hty, hrun]
mutual
def twoslotlaw15_DescNames.l0 : Nat → List (S27) → Int → Int → Int → Int → Int → Int → Int → Option (Bool)
  | 0, _, _, _, _, _, _, _, _ => none
  | k + 1, x4, x5, x310000, x310001, x310002, x310003, x311000, x311001 => if x5 < (x4.length : Int) then (if 0 ≤ x5 then (if x5 ≤ (wrap64 (x5 + 1)) then (if (wrap64 (x5 + 1)) ≤ (x4.length : Int) then ((desc_Leaf.f k x310000 x310001 x310002 x310003 ((x4.take ((wrap64 (x5 + 1)) : Int).toNat).drop (x5 : Int).toNat)).bind fun bt318 => (if bt318.2 = 150 then ((desc_Check.f k x310000 x310001 x310002 x310003 1 0 ((x4.take ((wrap64 (x5 + 1)) : Int).toNat).drop (x5 : Int).toNat)).bind fun t326 => (if t326 = 150 then (twoslotlaw15_DescNames.l0 k x4 (wrap64 (x5 + 1)) x310000 x310001 x310002 x310003 x311000 x311001) else (none))) else (none))) else (none)) else (none)) else (none)) else (twoslotlaw15_DescNames.l1 k ([] : List (S27)) 0 x310000 x310001 x310002 x310003 x311000 x311001)
def twoslotlaw15_DescNames.l1 : Nat → List (S27) → Int → Int → Int → Int → Int → Int → Int → Option (Bool)
  | 0, _, _, _, _, _, _, _, _ => none
  | k + 1, x8, x9, x310000, x310001, x310002, x310003, x311000, x311001 => if x9 < 9 then (if x8.length < 8796093022208 then (twoslotlaw15_DescNames.l1 k (x8 ++ [(⟨x311000, x311001⟩ : S27)]) (wrap64 (x9 + 1)) x310000 x310001 x310002 x310003 x311000 x311001) else (none)) else ((ref_grow.f x8 x311000 x311001 9).bind fun t330 => ((ref_grow.f t330 x311000 x311001 10).bind fun t333 => ((desc_Leaf.f k x310000 x310001 x310002 x310003 t330).bind fun bt336 => ((desc_Leaf.f k x310000 x310001 x310002 x310003 t333).bind fun bt340 => ((desc_Refs.f k x310000 x310001 x310002 x310003 bt336.1 10).bind fun bt344 => ((desc_Refs.f k x310000 x310001 x310002 x310003 bt336.1 11).bind fun bt348 => ((desc_Bytes.f k x310000 x310001 x310002 x310003 576 0 x8).bind fun bt352 => (if 1 ≤ (x8.length : Int) then ((desc_Bytes.f k x310000 x310001 x310002 x310003 577 1 (x8.take 1)).bind fun bt360 => ((desc_Bytes.f k x310000 x310001 x310002 x310003 5760 1 x8).bind fun bt364 => ((desc_Bytes.f k x310000 x310001 x310002 x310003 5761 1 t330).bind fun bt368 => ((desc_Bytes.f k x310000 x310001 x310002 x310003 577 0 t330).bind fun bt372 => ((desc_Parse.f k 0 0 0 0 ([] : List Int)).bind fun bt376 => ((desc_Refs.f k x310000 x310001 x310002 x310003 ([] : List Int) 0).bind fun bt382 => (if bt336.2 = 0 then (if bt340.2 = 20 then (if bt344.2 = 0 then (if bt348.2 = 20 then (if bt352.2 = 0 then (if bt360.2 = 0 then (if bt364.2 = 0 then (if bt368.2 = 150 then (if bt372.2 = 150 then (if bt376.2.2.2 = 2 then (if bt382.2 = 20 then (if (bt352.1.length : Int) = 64 then (if (bt360.1.length : Int) = 64 then (if (bt364.1.length : Int) = 64 then (if (bt344.1.length : Int) = 10 then (if 9 < (bt344.1.length : Int) then (if (((rd_T27 bt344.1 9).f0) == x311000 && (((rd_T27 bt344.1 9).f1) == x311001)) = true then (if 2 < (bt352.1.length : Int) then (if (rd bt352.1 2) = 2 then (if 3 < (bt352.1.length : Int) then (if (rd bt352.1 3) = 64 then (if 6 < (bt352.1.length : Int) then (if (rd bt352.1 6) = 9 then (if 4 < (bt360.1.length : Int) then (if (rd bt360.1 4) = 1 then (if 6 < (bt360.1.length : Int) then (if (rd bt360.1 6) = 1 then (if 9 < (bt360.1.length : Int) then (if (rd bt360.1 9) = 64 then (if 2 < (bt364.1.length : Int) then (if (rd bt364.1 2) = 22 then (if 3 < (bt364.1.length : Int) then (some ((rd bt364.1 3) == 128)) else (none)) else (none)) else (none)) else (none)) else (none)) else (none)) else (none)) else (none)) else (none)) else (none)) else (none)) else (none)) else (none)) else (none)) else (none)) else (none)) else (none)) else (none)) else (none)) else (none)) else (none)) else (none)) else (none)) else (none)) else (none)) else (none)) else (none)) else (none)) else (none)) else (none)) else (none)) else (none)))))))) else (none)))))))))
end
def twoslotlaw15_DescNames.f (k : Nat)  : Option (Bool) := (twoslotlaw15_alive.f k).bind fun t304 => (if t304 = true then ((twoslotlaw15_sample.f).bind fun bt305 => (twoslotlaw15_DescNames.l0 k (([(⟨32, 1⟩ : S27), (⟨(-1), 1⟩ : S27), (⟨0, 0⟩ : S27), (⟨0, 1073741825⟩ : S27)] : List (S27))) 0 bt305.1 bt305.2.1 bt305.2.2.1 bt305.2.2.2 31 1073741824)) else (none))
def twoslotlaw15_DescNames.T10 : Bool × List (List Nat × List Nat) := (true, [([], []), ([], []), ([], []), ([], []), ([3], [3]), ([1, 2, 4], [1, 2, 4]), ([0, 5], [0, 5]), ([6], [6]), ([7], [7]), ([7], [7]), ([8, 6, 0, 1, 2, 3, 4, 5, 6, 7, 8], [8]), ([9, 10, 0, 1, 2, 3, 4, 5, 6, 7, 8, 9, 10], [9])])
def twoslotlaw15_DescNames.B10 : List Nat := [0, 0, 0, 0, 8, 30, 63, 127, 255, 255, 511, 2047]
theorem twoslotlaw15_DescNames.tab10 : rtab .any (opsOf Try.f3 10) = twoslotlaw15_DescNames.T10 := by kernel_rfl
theorem twoslotlaw15_DescNames.bits10 : waitsOk twoslotlaw15_DescNames.T10.2 twoslotlaw15_DescNames.B10 = true := by kernel_rfl
def twoslotlaw15_DescNames.T11 : Bool × List (List Nat × List Nat) := (true, [([], []), ([0], [0]), ([1], [1]), ([2], [2]), ([2], [2]), ([2], [2]), ([2], [2]), ([6, 2], [2, 6]), ([4, 5, 7, 2], [2, 4, 5, 7]), ([8, 2], [2, 8]), ([3, 9, 2, 2], [2, 3, 9]), ([10, 2], [2, 10]), ([2, 11], [2, 11])])
def twoslotlaw15_DescNames.B11 : List Nat := [0, 1, 3, 7, 7, 7, 7, 71, 247, 503, 1023, 2047, 4095]
theorem twoslotlaw15_DescNames.tab11 : rtab .any (opsOf Try.f3 11) = twoslotlaw15_DescNames.T11 := by kernel_rfl
theorem twoslotlaw15_DescNames.bits11 : waitsOk twoslotlaw15_DescNames.T11.2 twoslotlaw15_DescNames.B11 = true := by kernel_rfl
def twoslotlaw15_DescNames.T25 : Bool × List (List Nat × List Nat) := (true, [([], []), ([], []), ([1], [1]), ([2], [2]), ([0, 3], [0, 3]), ([4], [4]), ([5], [5]), ([5], [5]), ([6, 4, 0, 1, 2, 3, 4, 5, 6], [6]), ([7, 8, 0, 1, 2, 3, 4, 5, 6, 7, 8], [7])])
def twoslotlaw15_DescNames.B25 : List Nat := [0, 0, 2, 6, 15, 31, 63, 63, 127, 511]
theorem twoslotlaw15_DescNames.tab25 : rtab .any (opsOf Try.f3 25) = twoslotlaw15_DescNames.T25 := by kernel_rfl
theorem twoslotlaw15_DescNames.bits25 : waitsOk twoslotlaw15_DescNames.T25.2 twoslotlaw15_DescNames.B25 = true := by kernel_rfl
def twoslotlaw15_DescNames.T33 : Bool × List (List Nat × List Nat) := (true, [([], []), ([0], [0]), ([1, 0], [0, 1]), ([2, 0], [0, 2]), ([0], [0]), ([3, 4, 0], [0, 3, 4]), ([0, 5], [0, 5]), ([6, 0], [6]), ([7], [7]), ([8, 7], [7, 8]), ([9, 7], [7, 9]), ([10, 7], [7, 10]), ([7, 11], [7, 11]), ([12, 7], [12]), ([13], [13]), ([14, 13], [13, 14]), ([15, 13], [13, 15]), ([16, 13], [13, 16]), ([13, 17], [13, 17]), ([18, 13], [18]), ([19], [19]), ([20, 19], [19, 20]), ([21, 19], [19, 21]), ([22, 19], [19, 22]), ([19, 23], [19, 23]), ([24, 19], [24]), ([25], [25]), ([26, 25], [25, 26]), ([27, 25], [25, 27]), ([28, 25], [25, 28]), ([25, 29], [25, 29]), ([30, 25], [30]), ([31], [31]), ([32, 31], [31, 32]), ([33, 31], [31, 33]), ([34, 31], [31, 34]), ([31, 35], [31, 35]), ([36, 31], [36]), ([37], [37]), ([38, 37], [37, 38]), ([39, 37], [37, 39]), ([40, 37], [37, 40]), ([37, 41], [37, 41]), ([42, 37], [42]), ([43], [43]), ([44, 43], [43, 44]), ([45, 43], [43, 45]), ([46, 43], [43, 46]), ([43, 47], [43, 47]), ([48, 43], [48]), ([49], [49]), ([50, 49], [49, 50]), ([51, 49], [49, 51]), ([52, 49], [49, 52]), ([49, 53], [49, 53]), ([54, 49, 0, 1, 2, 3, 4, 5, 6, 7, 8, 9, 10, 11, 12, 13, 14, 15, 16, 17, 18, 19, 20, 21, 22, 23, 24, 25, 26, 27, 28, 29, 30, 31, 32, 33, 34, 35, 36, 37, 38, 39, 40, 41, 42, 43, 44, 45, 46, 47, 48, 49, 50, 51, 52, 53, 54], [54])])
def twoslotlaw15_DescNames.B33 : List Nat := [0, 1, 3, 7, 1, 31, 63, 127, 255, 511, 1023, 2047, 4095, 8191, 16383, 32767, 65535, 131071, 262143, 524287, 1048575, 2097151, 4194303, 8388607, 16777215, 33554431, 67108863, 134217727, 268435455, 536870911, 1073741823, 2147483647, 4294967295, 8589934591, 17179869183, 34359738367, 68719476735, 137438953471, 274877906943, 549755813887, 1099511627775, 2199023255551, 4398046511103, 8796093022207, 17592186044415, 35184372088831, 70368744177663, 140737488355327, 281474976710655, 562949953421311, 1125899906842623, 2251799813685247, 4503599627370495, 9007199254740991, 18014398509481983, 36028797018963967]
theorem twoslotlaw15_DescNames.tab33 : rtab .any (opsOf Try.f3 33) = twoslotlaw15_DescNames.T33 := by kernel_rfl
theorem twoslotlaw15_DescNames.bits33 : waitsOk twoslotlaw15_DescNames.T33.2 twoslotlaw15_DescNames.B33 = true := by kernel_rfl
set_option maxHeartbeats 8000000 in
set_option maxRecDepth 100000 in
theorem twoslotlaw15_DescNames.calls (k : Nat)  (r : Bool) (w : World) (h : twoslotlaw15_DescNames.f k  = some r) :
    Calls Try.prog 3 #[] w fun e w' => e = .returned (.bool r) ∧ Below w.heap.size w w' := by
  have hu24 := Try.underlying24
  have hu27 := Try.underlying27
  have hu35 := Try.underlying35
  have HB := Aside0.mk (Below.refl w.heap.size w)
  have H : ((twoslotlaw15_alive.f k).bind fun t304 => (if t304 = true then ((twoslotlaw15_sample.f).bind fun bt305 => (twoslotlaw15_DescNames.l0 k (([(⟨32, 1⟩ : S27), (⟨(-1), 1⟩ : S27), (⟨0, 0⟩ : S27), (⟨0, 1073741825⟩ : S27)] : List (S27))) 0 bt305.1 bt305.2.1 bt305.2.2.1 bt305.2.2.2 31 1073741824)) else (none))) = some r := h
  clear h
  replace H := Option.bind_eq_some_iff.mp H
  obtain ⟨t304, A10, H⟩ := H
  try dsimp only at H
  have A1 := Aside0.mk A10
  clear A10
  by_cases c2 : t304 = true
  · subst c2
    have H1 : ((twoslotlaw15_sample.f).bind fun bt305 => (twoslotlaw15_DescNames.l0 k (([(⟨32, 1⟩ : S27), (⟨(-1), 1⟩ : S27), (⟨0, 0⟩ : S27), (⟨0, 1073741825⟩ : S27)] : List (S27))) 0 bt305.1 bt305.2.1 bt305.2.2.1 bt305.2.2.2 31 1073741824)) = some r := by rw [if_pos rfl] at H; exact H
    clear H
    have H := H1
    clear H1
    replace H := Option.bind_eq_some_iff.mp H
    obtain ⟨⟨t305, t306, t307, t308⟩, A30, H⟩ := H
    try dsimp only at H
    have A3 := Aside0.mk A30
    clear A30
    obtain ⟨y311, hy311⟩ : ∃ y_ : List (S27), y_ = (([(⟨32, 1⟩ : S27), (⟨(-1), 1⟩ : S27), (⟨0, 0⟩ : S27), (⟨0, 1073741825⟩ : S27)] : List (S27))) := ⟨_, rfl⟩
    replace H : (twoslotlaw15_DescNames.l0 k y311 0 t305 t306 t307 t308 31 1073741824) = some r := by first | (rw [hy311]; with_reducible exact H) | (have H2_ := (Option.bind_some _ _).symm.trans H; rw [hy311]; with_reducible exact H2_) | (have H2_ := (Option.bind_some _ _).symm.trans H; with_reducible exact H2_) | with_reducible exact H | (rw [hy311]; exact H) | exact H
    have Ny311 := Aside0.mk hy311
    clear hy311
    have H' := Aside0.mk H
    clear H
    go_enter Try.func3, Try.ntmps3
    go_wp2_with (first | ((with_reducible refine gate_callee (f := 9) rfl ?_); refine goesL_ (some 34) rfl rfl Try.func9 (by kernel_rfl) rfl #[] rfl (by (try simp only [sM]); first | done | rfl | (simp only [sT]; rfl)) ?_; (with_reducible refine (twoslotlaw15_alive.calls k  true _ A1.out).mono ?_); rintro e w4 ⟨rfl, hb⟩; refine ⟨_, rfl, ?_⟩; replace HB := kH HB hb; (try clear hb); (try clear hb2); (try clear hk); (try clear hi)) | ((with_reducible refine gate_callee (f := 10) rfl ?_); refine goesL_ (some 37) rfl rfl Try.func10 (by kernel_rfl) rfl #[] rfl (by (try simp only [sM]); first | done | rfl | (simp only [sT]; rfl)) ?_; (with_reducible refine (twoslotlaw15_sample.calls  t305 t306 t307 t308 _ A3.out).mono ?_); rintro e w5 ⟨rfl, hb⟩; refine ⟨_, rfl, ?_⟩; replace HB := kH HB hb; (try clear hb); (try clear hb2); (try clear hk); (try clear hi)) | ((with_reducible refine gate_dst (N := 2) rfl ?_); (try (refine gate_guard (by rfl) ?_; dsimp only)); refine box_event rfl (N := 2) rfl (cs := #[.int .i64 0, .int .i64 0, .int .i64 0, .int .i64 0]) (t := 24) (by go_simp; try rfl) ?_; intro gb309 hg w6 hbox hb; have BK309 := Aside0.mk (hbox); have GW309 := Aside0.mk ((by rw [hg]; exact (sZ HB) : w.heap.size ≤ gb309)); have GE309 := Aside0.mk ((by rw [hg]; exact (sZ HB) : w.heap.size ≤ gb309)); replace HB := kH HB hb; clear hb hbox hg; obtain ⟨hcz7_0, hcz7_1, hcz7_2, hcz7_3, hfz7_0, hfz7_1, hfz7_2, hfz7_3⟩ := cs4 BK309.out) | ((with_reducible refine gate_dst (N := 3) rfl ?_); (try (refine gate_guard (by rfl) ?_; dsimp only)); refine box_event rfl (N := 3) rfl (cs := #[.int .i64 0, .int .i64 0]) (t := 27) (by go_simp; try rfl) ?_; intro gb310 hg w8 hbox hb; have BK310 := Aside0.mk (hbox); have GW310 := Aside0.mk ((by rw [hg]; exact (below_size (by repeat (first | exact sH HB.out | refine sN (w := w) ?_ | with_reducible refine sG (w := w) ?_ (by assumption)))) : w.heap.size ≤ gb310)); have GE310 := Aside0.mk ((by rw [hg]; exact (below_size (by repeat (first | exact sH HB.out | refine sN (w := w) ?_ | with_reducible refine sG (w := w) ?_ (by assumption)))) : w.heap.size ≤ gb310)); replace HB := Aside0.mk (below_step (by repeat (first | exact sH HB.out | refine sN (w := w) ?_ | with_reducible refine sG (w := w) ?_ (by assumption))) hb); have NB309_310 := Aside0.mk ((by rw [hg]; exact Nat.ne_of_lt (blk_lt (g := gb309) (o := .cells #[.int .i64 t305, .int .i64 t306, .int .i64 t307, .int .i64 t308] 24 (0, 0)) (by (try refine sO ?_); refine blk_put (cs := #[.int .i64 t305, .int .i64 t306, .int .i64 t307, .int .i64 0]) ?_ 3 _ rfl; (try refine sO ?_); refine blk_put (cs := #[.int .i64 t305, .int .i64 t306, .int .i64 0, .int .i64 0]) ?_ 2 _ rfl; (try refine sO ?_); refine blk_put (cs := #[.int .i64 t305, .int .i64 0, .int .i64 0, .int .i64 0]) ?_ 1 _ rfl; (try refine sO ?_); refine blk_put (cs := #[.int .i64 0, .int .i64 0, .int .i64 0, .int .i64 0]) ?_ 0 _ rfl; first | exact BK309.out | (refine sO ?_; exact BK309.out))) : gb309 ≠ gb310)); have NB310_309 := Aside0.mk ((by rw [hg]; exact Nat.ne_of_gt (blk_lt (g := gb309) (o := .cells #[.int .i64 t305, .int .i64 t306, .int .i64 t307, .int .i64 t308] 24 (0, 0)) (by (try refine sO ?_); refine blk_put (cs := #[.int .i64 t305, .int .i64 t306, .int .i64 t307, .int .i64 0]) ?_ 3 _ rfl; (try refine sO ?_); refine blk_put (cs := #[.int .i64 t305, .int .i64 t306, .int .i64 0, .int .i64 0]) ?_ 2 _ rfl; (try refine sO ?_); refine blk_put (cs := #[.int .i64 t305, .int .i64 0, .int .i64 0, .int .i64 0]) ?_ 1 _ rfl; (try refine sO ?_); refine blk_put (cs := #[.int .i64 0, .int .i64 0, .int .i64 0, .int .i64 0]) ?_ 0 _ rfl; first | exact BK309.out | (refine sO ?_; exact BK309.out))) : gb310 ≠ gb309)); replace BK309 := Aside0.mk (blk_below (g := gb309) (o := .cells #[.int .i64 t305, .int .i64 t306, .int .i64 t307, .int .i64 t308] 24 (0, 0)) (by (try refine sO ?_); refine blk_put (cs := #[.int .i64 t305, .int .i64 t306, .int .i64 t307, .int .i64 0]) ?_ 3 _ rfl; (try refine sO ?_); refine blk_put (cs := #[.int .i64 t305, .int .i64 t306, .int .i64 0, .int .i64 0]) ?_ 2 _ rfl; (try refine sO ?_); refine blk_put (cs := #[.int .i64 t305, .int .i64 0, .int .i64 0, .int .i64 0]) ?_ 1 _ rfl; (try refine sO ?_); refine blk_put (cs := #[.int .i64 0, .int .i64 0, .int .i64 0, .int .i64 0]) ?_ 0 _ rfl; first | exact BK309.out | (refine sO ?_; exact BK309.out)) hb); clear hb hbox hg; have hnb9 := NB310_309.out; have hnc9 := NB309_310.out; obtain ⟨hcz10_0, hcz10_1, hfz10_0, hfz10_1⟩ := cs2 BK310.out) | ((with_reducible refine gate_dst (N := 43) rfl ?_); (try (refine gate_guard (by rfl) ?_; dsimp only)); refine Kd.R_lit k27 _ 27 ?hg (N := 43) ?hd (xs := ([(⟨32, 1⟩ : S27), (⟨(-1), 1⟩ : S27), (⟨0, 0⟩ : S27), (⟨0, 1073741825⟩ : S27)] : List (S27))) (inner := [.int .i64 32, .int .i64 1, .int .i64 (-1), .int .i64 1, .int .i64 0, .int .i64 0, .int .i64 0, .int .i64 1073741825]) (ok := fun _ => True) (okp := fun _ => True) ?hr ?hp (fun _ hk => hk) trivial (Below.refl _ _) (Nat.le_refl _) (by simp) ?_; (case hd => rfl); (case hg => rfl); (case hr => first | (go_simp; done) | (go_simp; rfl)); (case hp => exact (Reps.c2 (show Kd.M k27 _ _ _ (⟨32, 1⟩ : S27) [.int .i64 32, .int .i64 1] from (k27_mkM _ _ _ (⟨32, 1⟩ : S27) )) (Reps.c2 (show Kd.M k27 _ _ _ (⟨(-1), 1⟩ : S27) [.int .i64 (-1), .int .i64 1] from (k27_mkM _ _ _ (⟨(-1), 1⟩ : S27) )) (Reps.c2 (show Kd.M k27 _ _ _ (⟨0, 0⟩ : S27) [.int .i64 0, .int .i64 0] from (k27_mkM _ _ _ (⟨0, 0⟩ : S27) )) (Reps.c2 (show Kd.M k27 _ _ _ (⟨0, 1073741825⟩ : S27) [.int .i64 0, .int .i64 1073741825] from (k27_mkM _ _ _ (⟨0, 1073741825⟩ : S27) )) (Reps.none _ _)))))); intro v312 w11 ho12 hb hg_ hnew_; clear hg_ hnew_; (first | rw [← Ny311.out] at ho12 | (simp only [Int.reduceToNat] at ho12; rw [← Ny311.out] at ho12)); have HO313 := Aside0.mk (Kd.R_lower (Kd.R_newB ho12 (g := gb310) (o := .cells #[.int .i64 31, .int .i64 1073741824] 27 (0, 0)) (by (try refine sO ?_); refine blk_put (cs := #[.int .i64 31, .int .i64 0]) ?_ 1 _ rfl; (try refine sO ?_); refine blk_put (cs := #[.int .i64 0, .int .i64 0]) ?_ 0 _ rfl; first | exact BK310.out | (refine sO ?_; exact BK310.out))) (below_size (by repeat (first | exact sH HB.out | refine sN (w := w) ?_ | with_reducible refine sG (w := w) ?_ (by assumption))))); replace BK309 := Aside0.mk (blk_below (g := gb309) (o := .cells #[.int .i64 t305, .int .i64 t306, .int .i64 t307, .int .i64 t308] 24 (0, 0)) (by (try refine sO ?_); refine blk_far ?_ NB309_310.out _; (try refine sO ?_); refine blk_far ?_ NB309_310.out _; first | exact BK309.out | (refine sO ?_; exact BK309.out)) hb); replace BK310 := Aside0.mk (blk_below (g := gb310) (o := .cells #[.int .i64 31, .int .i64 1073741824] 27 (0, 0)) (by (try refine sO ?_); refine blk_put (cs := #[.int .i64 31, .int .i64 0]) ?_ 1 _ rfl; (try refine sO ?_); refine blk_put (cs := #[.int .i64 0, .int .i64 0]) ?_ 0 _ rfl; first | exact BK310.out | (refine sO ?_; exact BK310.out)) hb); replace HB := Aside0.mk (below_step (by repeat (first | exact sH HB.out | refine sN (w := w) ?_ | with_reducible refine sG (w := w) ?_ (by assumption))) hb); clear hb ho12))
    go_loopg [5] k (fun kq v5 w' => ∃ (x5_1 : Int), v5 = .int .i64 x5_1 ∧ Aside0 (twoslotlaw15_DescNames.l0 kq y311 x5_1 t305 t306 t307 t308 31 1073741824 = some r) ∧ Aside0 (kq ≤ k) ∧ Aside0 (Kd.R k27 27 w' w.heap.size (fun k_ => k_ ≠ gb310) v312 y311) ∧ Aside0 (w'.heap[gb309]? = some (.cells #[.int .i64 t305, .int .i64 t306, .int .i64 t307, .int .i64 t308] 24 (0, 0))) ∧ Aside0 (w'.heap[gb310]? = some (.cells #[.int .i64 31, .int .i64 1073741824] 27 (0, 0))) ∧ Aside0 (Below w.heap.size w w'))
    case atStart => exact ⟨(0), (by first | rfl | (simp; done) | (simp [*]; done)), H', ⟨Nat.le_refl _⟩, ⟨by (with_reducible repeat (first | apply Kd.R_alloc | apply Kd.R_drewN | apply Kd.R_drew)); exact Kd.R_mono HO313.out (fun _ hk => hk.2)⟩, ⟨by (try refine sO ?_); exact BK309.out⟩, ⟨by (try refine sO ?_); exact BK310.out⟩, ⟨by repeat (first | exact sH HB.out | refine sN (w := w) ?_ | with_reducible refine sG (w := w) ?_ (by assumption))⟩⟩
    case round =>
      clear H'
      try clear c1
      try clear c2
      try clear p2
      try clear c3
      try clear c9
      try clear c10
      try clear hcz10_0
      try clear hcz10_1
      try clear hcz7_0
      try clear hcz7_1
      try clear hcz7_2
      try clear hcz7_3
      try clear hfz10_0
      try clear hfz10_1
      try clear hfz7_0
      try clear hfz7_1
      try clear hfz7_2
      try clear hfz7_3
      obtain ⟨x5_1, rfl, HA, HK1, HO_4, BK309, BK310, HB⟩ := hrel
      cases gk with
      | zero => exact absurd HA.out (by simp [twoslotlaw15_DescNames.l0])
      | succ k1 =>
        have H := HA.out
        clear HA
        simp only [twoslotlaw15_DescNames.l0] at H
        by_cases c13 : x5_1 < (y311.length : Int)
        · rw [if_pos c13] at H
          have c13b0 : decide (x5_1 < (y311.length : Int)) = true := decide_eq_true c13
          clear c13
          by_cases c14 : 0 ≤ x5_1
          · rw [if_pos c14] at H
            have c14b0 := eq_true c14
            have c14b1 : decide (0 ≤ x5_1) = true := decide_eq_true c14
            clear c14
            by_cases c15 : x5_1 ≤ (wrap64 (x5_1 + 1))
            · rw [if_pos c15] at H
              have c15b0 := eq_true c15
              have c15b1 : decide (x5_1 ≤ (wrap64 (x5_1 + 1))) = true := decide_eq_true c15
              by_cases c16 : (wrap64 (x5_1 + 1)) ≤ (y311.length : Int)
              · rw [if_pos c16] at H
                have c16b0 := eq_true c16
                have c16b1 : decide ((wrap64 (x5_1 + 1)) ≤ (y311.length : Int)) = true := decide_eq_true c16
                obtain ⟨y314, hy314⟩ : ∃ y_ : List (S27), y_ = ((y311.take ((wrap64 (x5_1 + 1)) : Int).toNat).drop (x5_1 : Int).toNat) := ⟨_, rfl⟩
                replace H : ((desc_Leaf.f k1 t305 t306 t307 t308 y314).bind fun bt318 => (if bt318.2 = 150 then ((desc_Check.f k1 t305 t306 t307 t308 1 0 ((y311.take ((wrap64 (x5_1 + 1)) : Int).toNat).drop (x5_1 : Int).toNat)).bind fun t326 => (if t326 = 150 then (twoslotlaw15_DescNames.l0 k1 y311 (wrap64 (x5_1 + 1)) t305 t306 t307 t308 31 1073741824) else (none))) else (none))) = some r := by first | (rw [hy314]; with_reducible exact H) | (have H2_ := (Option.bind_some _ _).symm.trans H; rw [hy314]; with_reducible exact H2_) | (have H2_ := (Option.bind_some _ _).symm.trans H; with_reducible exact H2_) | with_reducible exact H | (rw [hy314]; exact H) | exact H
                have Ny314 := Aside0.mk hy314
                clear hy314
                replace H := Option.bind_eq_some_iff.mp H
                obtain ⟨⟨t318, t321⟩, A170, H⟩ := H
                try dsimp only at H
                have A17 := Aside0.mk A170
                clear A170
                by_cases c18 : t321 = 150
                · rw [if_pos c18] at H
                  have c18b0 : (t321 == 150) = true := beq_iff_eq.mpr c18
                  have c18b1 : (t321 != 150) = false := bne_eq_false_iff_eq.mpr c18
                  clear c18
                  have c19b0 := eq_true (of_decide_eq_true (by first | (with_reducible assumption) | assumption) : 0 ≤ x5_1)
                  have c20b0 := eq_true (of_decide_eq_true (by first | (with_reducible assumption) | assumption) : x5_1 ≤ (wrap64 (x5_1 + 1)))
                  have c21b0 := eq_true (of_decide_eq_true (by first | (with_reducible assumption) | assumption) : (wrap64 (x5_1 + 1)) ≤ (y311.length : Int))
                  obtain ⟨y322, hy322⟩ : ∃ y_ : List (S27), y_ = ((y311.take ((wrap64 (x5_1 + 1)) : Int).toNat).drop (x5_1 : Int).toNat) := ⟨_, rfl⟩
                  replace H : ((desc_Check.f k1 t305 t306 t307 t308 1 0 y322).bind fun t326 => (if t326 = 150 then (twoslotlaw15_DescNames.l0 k1 y311 (wrap64 (x5_1 + 1)) t305 t306 t307 t308 31 1073741824) else (none))) = some r := by first | (rw [hy322]; with_reducible exact H) | (have H2_ := (Option.bind_some _ _).symm.trans H; rw [hy322]; with_reducible exact H2_) | (have H2_ := (Option.bind_some _ _).symm.trans H; with_reducible exact H2_) | with_reducible exact H | (rw [hy322]; exact H) | exact H
                  have Ny322 := Aside0.mk hy322
                  clear hy322
                  replace H := Option.bind_eq_some_iff.mp H
                  obtain ⟨t326, A220, H⟩ := H
                  try dsimp only at H
                  have A22 := Aside0.mk A220
                  clear A220
                  by_cases c23 : t326 = 150
                  · rw [if_pos c23] at H
                    have c23b0 : (t326 == 150) = true := beq_iff_eq.mpr c23
                    have c23b1 : (t326 != 150) = false := bne_eq_false_iff_eq.mpr c23
                    clear c23
                    have H' := Aside0.mk H
                    clear H
                    obtain ⟨Ao24, co24, eo24⟩ := Kd.R_slice HO_4.out
                    subst eo24
                    try go_wp2
                    replace HO_4 := Aside0.mk (Kd.R_drew HO_4.out); replace BK309 := Aside0.mk (blk_drew BK309.out); replace BK310 := Aside0.mk (blk_drew BK310.out); replace HB := Aside0.mk (below_drew1 HB.out)
                    have q26 : ((wrap64 (x5_1 + 1)) : Int) ≤ ((y311.length : Int) : Int) := of_decide_eq_true (by first | (with_reducible assumption) | assumption)
                    obtain ⟨i026, hi026, _, hsz26, _⟩ := info_parts info27
                    have hroom26 : y311.length ≤ co24 := (Kd.R_reads' HO_4.out).2.1
                    have hC26 : Kd.C k27 _ Ao24 y311.length y311 := (Kd.R_reads' HO_4.out).2.2
                    have ql26 : (x5_1 : Int) ≤ ((wrap64 (x5_1 + 1)) : Int) := of_decide_eq_true (by first | (with_reducible assumption) | assumption)
                    have q026 : (0 : Int) ≤ (x5_1 : Int) := of_decide_eq_true (by first | (with_reducible assumption) | assumption)
                    have hcut26 := cut_mid (P := Try.prog) 28 27 .i64 .i64 Try.underlying28 hi026 2 hsz26 Ao24 y311.length co24 x5_1 (wrap64 (x5_1 + 1)) q026 ql26 q26 hroom26
                    have hr26 := Kd.C_mid (lo := (x5_1 : Int).toNat) (hi := ((wrap64 (x5_1 + 1)) : Int).toNat) (c := co24) hC26 (by omega) (by omega) hroom26
                    obtain ⟨A26, hA26⟩ : ∃ A1, A1 = (if co24 = (x5_1 : Int).toNat then Ao24 else (Ao24 : Option Addr).map (·.add ((x5_1 : Int).toNat * 2))) := ⟨_, rfl⟩
                    obtain ⟨c26, hc26⟩ : ∃ c1, c1 = co24 - (x5_1 : Int).toNat := ⟨_, rfl⟩
                    have hy26 : y314.length = ((wrap64 (x5_1 + 1)) : Int).toNat - (x5_1 : Int).toNat := (by rw [Ny314.out, List.length_drop, List.length_take] <;> omega)
                    rw [show ((y311).take ((wrap64 (x5_1 + 1)) : Int).toNat).drop (x5_1 : Int).toNat = y314 from Ny314.out.symm] at hr26
                    replace hr26 : Kd.C k27 _ A26 y314.length y314 := (by rw [hA26]; exact hr26)
                    rw [← hy26, ← hA26, ← hc26] at hcut26
                    have HR317 := Aside0.mk hr26
                    have HC317 := Aside0.mk (show y314.length ≤ c26 from by rw [hy26, hc26]; exact Nat.sub_le_sub_right (Nat.le_trans (by omega) hroom26) _)
                    clear hr26 hC26 hroom26 hi026 hsz26 hc26
                    have KY26 := Aside0.mk hy26
                    have KA26 := Aside0.mk hA26
                    clear hy26 hA26
                    have KL26 := Aside0.mk (show ((wrap64 (x5_1 + 1)) : Int).toNat ≤ y311.length from by omega)
                    have KM26 := Aside0.mk (show (x5_1 : Int).toNat ≤ ((wrap64 (x5_1 + 1)) : Int).toNat from by omega)
                    replace q26 := eq_true q26
                    refine start_ (n := 12) (S := fun w' => w'.cell? ⟨gb309, 0, none⟩ = some (.int .i64 t305) ∧ w'.cell? ⟨gb309, 1, none⟩ = some (.int .i64 t306) ∧ w'.cell? ⟨gb309, 2, none⟩ = some (.int .i64 t307) ∧ w'.cell? ⟨gb309, 3, none⟩ = some (.int .i64 t308)) (ds := []) #[O, O, O, O, O, O, O, O, O, O, O, O] (by kernel_rfl) rfl rfl ⟨(blk_cell BK309.out 0).trans rfl, (blk_cell BK309.out 1).trans rfl, (blk_cell BK309.out 2).trans rfl, (blk_cell BK309.out 3).trans rfl⟩ (fun hHeld => ?_); refine with_tabW twoslotlaw15_DescNames.tab10 twoslotlaw15_DescNames.bits10 (fun HT_ HW_ => ?_)
                    generalize wr.drew = w25 at HO_4 BK309 BK310 HB HR317 hHeld ⊢
                    refine pu (i := 1) (N := some 52) (v := ?_) (a' := ?_) #[O, X, O, O, O, O, O, O, O, O, O, O] rfl rfl HT_ (by kernel_rfl) (fun _ _ _ h => h) ⟨by rfl, ?_⟩ ?_ ?_
                    rotate_left
                    · intro w'; go_simp; with_reducible rfl
                    rotate_left
                    · simp only [sP]
                      rfl
                    refine pu (i := 2) (N := some 53) (v := ?_) (a' := ?_) #[O, X, X, O, O, O, O, O, O, O, O, O] rfl rfl HT_ (by kernel_rfl) (fun _ _ _ h => h) ⟨by rfl, ?_⟩ ?_ ?_
                    rotate_left
                    · intro w'; go_simp; with_reducible rfl
                    rotate_left
                    · simp only [sP]
                      rfl
                    refine pu (i := 3) (N := some 54) (v := ?_) (a' := ?_) #[O, X, X, X, O, O, O, O, O, O, O, O] rfl rfl HT_ (by kernel_rfl) (fun _ _ _ h => h) ⟨by rfl, ?_⟩ ?_ ?_
                    rotate_left
                    · intro w'; go_simp; with_reducible rfl
                    rotate_left
                    · simp only [sP]
                      rfl
                    refine pu (i := 4) (N := some 55) (v := ?_) (a' := ?_) #[O, X, X, X, X, O, O, O, O, O, O, O] rfl rfl HT_ (by kernel_rfl) (fun _ _ _ h => h) ⟨by rfl, ?_⟩ ?_ ?_
                    rotate_left
                    · intro w'; go_simp; with_reducible rfl
                    rotate_left
                    · simp only [sP]
                      rfl
                    refine pu (i := 5) (N := some 56) (v := ?_) (a' := ?_) #[O, X, X, X, X, X, O, O, O, O, O, O] rfl rfl HT_ (by kernel_rfl) (fun _ _ _ h => h) ⟨by rfl, ?_⟩ ?_ ?_
                    rotate_left
                    · intro w'; go_simp; with_reducible rfl
                    rotate_left
                    · simp only [sP]
                      rfl
                    refine tu (i := 0) (N := some 51) (v := ?_) (a' := ?_) #[X, X, X, X, X, X, O, O, O, O, O, O] rfl rfl HT_ HW_ (by kernel_rfl) (fun _ _ _ h => h) ⟨by rfl, ?_⟩ hHeld ?_ ?_
                    rotate_left
                    · rintro w' ⟨s0, s1, s2, s3⟩; go_simp; with_reducible rfl
                    rotate_left
                    · simp only [sP]
                      rfl
                    refine one_ (i := 6) (N := some 57) #[X, X, X, X, X, X, X, O, O, O, O, O] rfl rfl (one_of HT_.out (by kernel_rfl)) (by decide) (fun K hK => ?_)
                    refine goes_ Try.func11 (by kernel_rfl) rfl #[.agg #[.int .i64 t305, .int .i64 t306, .int .i64 t307, .int .i64 t308], .slice A26 y314.length c26] (by rfl) rfl rfl (by (try simp only [sM]); first | done | rfl | (simp only [sT]; rfl)) ?_
                    with_reducible refine (desc_Leaf.calls k1 t305 t306 t307 t308 _ _ y314 t318 t321 _ ?side1 ?side2 A17.out).mono ?_
                    (case side1 => repeat (first | exact (by repeat (first | (with_reducible exact HR317.out) | (with_reducible refine Kd.C_alloc ?_ _) | (with_reducible refine Kd.C_drewN ?_ _) | (with_reducible refine Kd.C_drew ?_) | exact HR317.out)) | (with_reducible refine Kd.C_alloc ?_ _) | (with_reducible refine Kd.C_drewN ?_ _) | (with_reducible refine Kd.C_drew ?_)))
                    (case side2 => exact HC317.out)
                    rintro e w27 ⟨v319, rfl, ho0, hb⟩
                    refine ⟨_, rfl, ?_⟩
                    replace HO_4 := Aside0.mk (Kd.R_below (sR HO_4.out) hb); have HO320 := Aside0.mk (Kd.R_lower ho0 (below_size (by repeat (first | exact sH HB.out | refine sN (w := w) ?_ | with_reducible refine sG (w := w) ?_ (by assumption))))); replace BK309 := kB BK309 hb; replace BK310 := kB BK310 hb; replace HR317 := Aside0.mk (Kd.C_below (by repeat (first | (with_reducible exact HR317.out) | (with_reducible refine Kd.C_alloc ?_ _) | (with_reducible refine Kd.C_drewN ?_ _) | (with_reducible refine Kd.C_drew ?_) | exact HR317.out)) hb); replace HB := Aside0.mk (below_step (by repeat (first | exact sH HB.out | refine sN (w := w) ?_ | with_reducible refine sG (w := w) ?_ (by assumption))) hb)
                    (try clear hb)
                    (try clear hb2)
                    (try clear hk)
                    (try clear hi)
                    (try clear ho0)
                    refine hK.out _ _ ⟨(blk_cell BK309.out 0).trans rfl, (blk_cell BK309.out 1).trans rfl, (blk_cell BK309.out 2).trans rfl, (blk_cell BK309.out 3).trans rfl⟩ (fun hHeld => ?_)
                    clear hK K
                    refine norm_ (a' := ?_) ?_ ?_
                    rotate_left
                    · show Act.put _ (some 57) _ = _
                      simp only [sP]
                      rfl
                    refine pu (i := 7) (N := some 50) (v := ?_) (a' := ?_) #[X, X, X, X, X, X, X, X, O, O, O, O] rfl rfl HT_ (by kernel_rfl) (fun _ _ _ h => h) ⟨by rfl, ?_⟩ ?_ ?_
                    rotate_left
                    · intro w'; go_simp; with_reducible rfl
                    rotate_left
                    · simp only [sP]
                      rfl
                    refine pu (i := 8) (N := some 58) (v := ?_) (a' := ?_) #[X, X, X, X, X, X, X, X, X, O, O, O] rfl rfl HT_ (by kernel_rfl) (fun _ _ _ h => h) ⟨by rfl, ?_⟩ ?_ ?_
                    rotate_left
                    · intro w'; go_simp; with_reducible rfl
                    rotate_left
                    · simp only [sP]
                      rfl
                    refine pu (i := 9) (N := some 59) (v := ?_) (a' := ?_) #[X, X, X, X, X, X, X, X, X, X, O, O] rfl rfl HT_ (by kernel_rfl) (fun _ _ _ h => h) ⟨by rfl, ?_⟩ ?_ ?_
                    rotate_left
                    · intro w'; go_simp; with_reducible rfl
                    rotate_left
                    · simp only [sP]
                      rfl
                    refine pu (i := 10) (N := some 6) (v := ?_) (a' := ?_) #[X, X, X, X, X, X, X, X, X, X, X, O] rfl rfl HT_ (by kernel_rfl) (fun _ _ _ h => h) ⟨by rfl, ?_⟩ ?_ ?_
                    rotate_left
                    · intro w'; go_simp; with_reducible rfl
                    rotate_left
                    · simp only [sP]
                      rfl
                    refine pu (i := 11) (N := some 7) (v := ?_) (a' := ?_) #[X, X, X, X, X, X, X, X, X, X, X, X] rfl rfl HT_ (by kernel_rfl) (fun _ _ _ h => h) ⟨by rfl, ?_⟩ ?_ ?_
                    rotate_left
                    · intro w'; go_simp; with_reducible rfl
                    rotate_left
                    · simp only [sP]
                      rfl
                    refine done_ (done_of HT_.out (by kernel_rfl)) ?_
                    try go_wp2
                    replace HO_4 := Aside0.mk (Kd.R_drew HO_4.out); replace HO320 := Aside0.mk (Kd.R_drew HO320.out); replace BK309 := Aside0.mk (blk_drew BK309.out); replace BK310 := Aside0.mk (blk_drew BK310.out); replace HR317 := Aside0.mk (Kd.C_drew HR317.out); replace HB := Aside0.mk (below_drew1 HB.out)
                    have q29 : ((wrap64 (x5_1 + 1)) : Int) ≤ ((y311.length : Int) : Int) := of_decide_eq_true (by first | (with_reducible assumption) | assumption)
                    obtain ⟨i029, hi029, _, hsz29, _⟩ := info_parts info27
                    have hroom29 : y311.length ≤ co24 := (Kd.R_reads' HO_4.out).2.1
                    have hC29 : Kd.C k27 _ Ao24 y311.length y311 := (Kd.R_reads' HO_4.out).2.2
                    have ql29 : (x5_1 : Int) ≤ ((wrap64 (x5_1 + 1)) : Int) := of_decide_eq_true (by first | (with_reducible assumption) | assumption)
                    have q029 : (0 : Int) ≤ (x5_1 : Int) := of_decide_eq_true (by first | (with_reducible assumption) | assumption)
                    have hcut29 := cut_mid (P := Try.prog) 28 27 .i64 .i64 Try.underlying28 hi029 2 hsz29 Ao24 y311.length co24 x5_1 (wrap64 (x5_1 + 1)) q029 ql29 q29 hroom29
                    have hr29 := Kd.C_mid (lo := (x5_1 : Int).toNat) (hi := ((wrap64 (x5_1 + 1)) : Int).toNat) (c := co24) hC29 (by omega) (by omega) hroom29
                    (try clear hcut26)
                    obtain ⟨A29, hA29⟩ : ∃ A1, A1 = (if co24 = (x5_1 : Int).toNat then Ao24 else (Ao24 : Option Addr).map (·.add ((x5_1 : Int).toNat * 2))) := ⟨_, rfl⟩
                    obtain ⟨c29, hc29⟩ : ∃ c1, c1 = co24 - (x5_1 : Int).toNat := ⟨_, rfl⟩
                    have hy29 : y322.length = ((wrap64 (x5_1 + 1)) : Int).toNat - (x5_1 : Int).toNat := (by rw [Ny322.out, List.length_drop, List.length_take] <;> omega)
                    rw [show ((y311).take ((wrap64 (x5_1 + 1)) : Int).toNat).drop (x5_1 : Int).toNat = y322 from Ny322.out.symm] at hr29
                    replace hr29 : Kd.C k27 _ A29 y322.length y322 := (by rw [hA29]; exact hr29)
                    rw [← hy29, ← hA29, ← hc29] at hcut29
                    have HR325 := Aside0.mk hr29
                    have HC325 := Aside0.mk (show y322.length ≤ c29 from by rw [hy29, hc29]; exact Nat.sub_le_sub_right (Nat.le_trans (by omega) hroom29) _)
                    clear hr29 hC29 hroom29 hi029 hsz29 hc29
                    have KY29 := Aside0.mk hy29
                    have KA29 := Aside0.mk hA29
                    clear hy29 hA29
                    have KL29 := Aside0.mk (show ((wrap64 (x5_1 + 1)) : Int).toNat ≤ y311.length from by omega)
                    have KM29 := Aside0.mk (show (x5_1 : Int).toNat ≤ ((wrap64 (x5_1 + 1)) : Int).toNat from by omega)
                    replace q29 := eq_true q29
                    refine start_ (n := 13) (S := fun w' => w'.cell? ⟨gb309, 0, none⟩ = some (.int .i64 t305) ∧ w'.cell? ⟨gb309, 1, none⟩ = some (.int .i64 t306) ∧ w'.cell? ⟨gb309, 2, none⟩ = some (.int .i64 t307) ∧ w'.cell? ⟨gb309, 3, none⟩ = some (.int .i64 t308)) (ds := []) #[O, O, O, O, O, O, O, O, O, O, O, O, O] (by kernel_rfl) rfl rfl ⟨(blk_cell BK309.out 0).trans rfl, (blk_cell BK309.out 1).trans rfl, (blk_cell BK309.out 2).trans rfl, (blk_cell BK309.out 3).trans rfl⟩ (fun hHeld => ?_); refine with_tabW twoslotlaw15_DescNames.tab11 twoslotlaw15_DescNames.bits11 (fun HT_ HW_ => ?_)
                    generalize w27.drew = w28 at HO_4 HO320 BK309 BK310 HR317 HB HR325 hHeld ⊢
                    refine pu (i := 0) (N := some 60) (v := ?_) (a' := ?_) #[X, O, O, O, O, O, O, O, O, O, O, O, O] rfl rfl HT_ (by kernel_rfl) (fun _ _ _ h => h) ⟨by rfl, ?_⟩ ?_ ?_
                    rotate_left
                    · intro w'; go_simp; with_reducible rfl
                    rotate_left
                    · simp only [sP]
                      rfl
                    refine pu (i := 1) (N := some 61) (v := ?_) (a' := ?_) #[X, X, O, O, O, O, O, O, O, O, O, O, O] rfl rfl HT_ (by kernel_rfl) (fun _ _ _ h => h) ⟨by rfl, ?_⟩ ?_ ?_
                    rotate_left
                    · intro w'; go_simp; with_reducible rfl
                    rotate_left
                    · simp only [sP]
                      rfl
                    refine pu (i := 2) (N := some 62) (v := ?_) (a' := ?_) #[X, X, X, O, O, O, O, O, O, O, O, O, O] rfl rfl HT_ (by kernel_rfl) (fun _ _ _ h => h) ⟨by rfl, ?_⟩ ?_ ?_
                    rotate_left
                    · intro w'; go_simp; with_reducible rfl
                    rotate_left
                    · simp only [sP]
                      rfl
                    refine pu (i := 4) (N := some 64) (v := ?_) (a' := ?_) #[X, X, X, O, X, O, O, O, O, O, O, O, O] rfl rfl HT_ (by kernel_rfl) (fun _ _ _ h => h) ⟨by rfl, ?_⟩ ?_ ?_
                    rotate_left
                    · intro w'; go_simp; with_reducible rfl
                    rotate_left
                    · simp only [sP]
                      rfl
                    refine pu (i := 5) (N := some 65) (v := ?_) (a' := ?_) #[X, X, X, O, X, X, O, O, O, O, O, O, O] rfl rfl HT_ (by kernel_rfl) (fun _ _ _ h => h) ⟨by rfl, ?_⟩ ?_ ?_
                    rotate_left
                    · intro w'; go_simp; with_reducible rfl
                    rotate_left
                    · simp only [sP]
                      rfl
                    refine pu (i := 6) (N := some 66) (v := ?_) (a' := ?_) #[X, X, X, O, X, X, X, O, O, O, O, O, O] rfl rfl HT_ (by kernel_rfl) (fun _ _ _ h => h) ⟨by rfl, ?_⟩ ?_ ?_
                    rotate_left
                    · intro w'; go_simp; with_reducible rfl
                    rotate_left
                    · simp only [sP]
                      rfl
                    refine pu (i := 7) (N := some 67) (v := ?_) (a' := ?_) #[X, X, X, O, X, X, X, X, O, O, O, O, O] rfl rfl HT_ (by kernel_rfl) (fun _ _ _ h => h) ⟨by rfl, ?_⟩ ?_ ?_
                    rotate_left
                    · intro w'; go_simp; with_reducible rfl
                    rotate_left
                    · simp only [sP]
                      rfl
                    refine pu (i := 8) (N := some 68) (v := ?_) (a' := ?_) #[X, X, X, O, X, X, X, X, X, O, O, O, O] rfl rfl HT_ (by kernel_rfl) (fun _ _ _ h => h) ⟨by rfl, ?_⟩ ?_ ?_
                    rotate_left
                    · intro w'; go_simp; with_reducible rfl
                    rotate_left
                    · simp only [sP]
                      rfl
                    refine pu (i := 9) (N := some 69) (v := ?_) (a' := ?_) #[X, X, X, O, X, X, X, X, X, X, O, O, O] rfl rfl HT_ (by kernel_rfl) (fun _ _ _ h => h) ⟨by rfl, ?_⟩ ?_ ?_
                    rotate_left
                    · intro w'; go_simp; with_reducible rfl
                    rotate_left
                    · simp only [sP]
                      rfl
                    refine tu (i := 3) (N := some 63) (v := ?_) (a' := ?_) #[X, X, X, X, X, X, X, X, X, X, O, O, O] rfl rfl HT_ HW_ (by kernel_rfl) (fun _ _ _ h => h) ⟨by rfl, ?_⟩ hHeld ?_ ?_
                    rotate_left
                    · rintro w' ⟨s0, s1, s2, s3⟩; go_simp; with_reducible rfl
                    rotate_left
                    · simp only [sP]
                      rfl
                    refine one_ (i := 10) (N := some 70) #[X, X, X, X, X, X, X, X, X, X, X, O, O] rfl rfl (one_of HT_.out (by kernel_rfl)) (by decide) (fun K hK => ?_)
                    refine goes_ Try.func12 (by kernel_rfl) rfl #[.agg #[.int .i64 t305, .int .i64 t306, .int .i64 t307, .int .i64 t308], .agg #[.int .i64 1, .int .i64 0, .slice A29 y322.length c29]] (by rfl) rfl rfl (by (try simp only [sM]); first | done | rfl | (simp only [sT]; rfl)) ?_
                    with_reducible refine (desc_Check.calls k1 t305 t306 t307 t308 1 0 _ _ y322 t326 _ ?side1 ?side2 A22.out).mono ?_
                    (case side1 => repeat (first | exact (by repeat (first | (with_reducible exact HR325.out) | (with_reducible refine Kd.C_alloc ?_ _) | (with_reducible refine Kd.C_drewN ?_ _) | (with_reducible refine Kd.C_drew ?_) | exact HR325.out)) | (with_reducible refine Kd.C_alloc ?_ _) | (with_reducible refine Kd.C_drewN ?_ _) | (with_reducible refine Kd.C_drew ?_)))
                    (case side2 => exact HC325.out)
                    rintro e w30 ⟨rfl, hb⟩
                    refine ⟨_, rfl, ?_⟩
                    replace HO_4 := Aside0.mk (Kd.R_below (sR HO_4.out) hb); replace HO320 := Aside0.mk (Kd.R_below (sR HO320.out) hb); replace BK309 := kB BK309 hb; replace BK310 := kB BK310 hb; replace HR317 := Aside0.mk (Kd.C_below (by repeat (first | (with_reducible exact HR317.out) | (with_reducible refine Kd.C_alloc ?_ _) | (with_reducible refine Kd.C_drewN ?_ _) | (with_reducible refine Kd.C_drew ?_) | exact HR317.out)) hb); replace HR325 := Aside0.mk (Kd.C_below (by repeat (first | (with_reducible exact HR325.out) | (with_reducible refine Kd.C_alloc ?_ _) | (with_reducible refine Kd.C_drewN ?_ _) | (with_reducible refine Kd.C_drew ?_) | exact HR325.out)) hb); replace HB := Aside0.mk (below_step (by repeat (first | exact sH HB.out | refine sN (w := w) ?_ | with_reducible refine sG (w := w) ?_ (by assumption))) hb)
                    (try clear hb)
                    (try clear hb2)
                    (try clear hk)
                    (try clear hi)
                    refine hK.out _ _ ⟨(blk_cell BK309.out 0).trans rfl, (blk_cell BK309.out 1).trans rfl, (blk_cell BK309.out 2).trans rfl, (blk_cell BK309.out 3).trans rfl⟩ (fun hHeld => ?_)
                    clear hK K
                    refine norm_ (a' := ?_) ?_ ?_
                    rotate_left
                    · show Act.put _ (some 70) _ = _
                      simp only [sP]
                      rfl
                    refine pu (i := 11) (N := some 71) (v := ?_) (a' := ?_) #[X, X, X, X, X, X, X, X, X, X, X, X, O] rfl rfl HT_ (by kernel_rfl) (fun _ _ _ h => h) ⟨by rfl, ?_⟩ ?_ ?_
                    rotate_left
                    · intro w'; go_simp; with_reducible rfl
                    rotate_left
                    · simp only [sP]
                      rfl
                    refine pu (i := 12) (N := some 72) (v := ?_) (a' := ?_) #[X, X, X, X, X, X, X, X, X, X, X, X, X] rfl rfl HT_ (by kernel_rfl) (fun _ _ _ h => h) ⟨by rfl, ?_⟩ ?_ ?_
                    rotate_left
                    · intro w'; go_simp; with_reducible rfl
                    rotate_left
                    · simp only [sP]
                      rfl
                    refine done_ (done_of HT_.out (by kernel_rfl)) ?_
                    try go_wp2
                    go_roundg k1
                    case measure => have := HK1.out; omega
                    case rel => exact ⟨(wrap64 (x5_1 + 1)), (by first | rfl | (simp; done) | (simp [*]; done)), H', ⟨by have := HK1.out; omega⟩, ⟨by (with_reducible repeat (first | apply Kd.R_alloc | apply Kd.R_drewN | apply Kd.R_drew)); exact HO_4.out⟩, ⟨by (try refine sO ?_); exact BK309.out⟩, ⟨by (try refine sO ?_); exact BK310.out⟩, ⟨by repeat (first | exact sH HB.out | refine sN (w := w) ?_ | with_reducible refine sG (w := w) ?_ (by assumption))⟩⟩
                  · rw [if_neg c23] at H
                    exact absurd H (by simp)
                · rw [if_neg c18] at H
                  exact absurd H (by simp)
              · rw [if_neg c16] at H
                exact absurd H (by simp)
            · rw [if_neg c15] at H
              exact absurd H (by simp)
          · rw [if_neg c14] at H
            exact absurd H (by simp)
        · rw [if_neg c13] at H
          have c13b0 : decide (x5_1 < (y311.length : Int)) = false := decide_eq_false c13
          clear c13
          have H' := Aside0.mk H
          clear H
          obtain ⟨Ao31, co31, eo31⟩ := Kd.R_slice HO_4.out
          subst eo31
          go_wp2
          go_loopg [8, 9] k1 (fun kq v8 v9 w' => ∃ (x8_2 : List (S27)) (x9_2 : Int), v9 = .int .i64 x9_2 ∧ Aside0 (twoslotlaw15_DescNames.l1 kq x8_2 x9_2 t305 t306 t307 t308 31 1073741824 = some r) ∧ Aside0 (kq ≤ k1) ∧ Aside0 (Kd.R k27 27 w' w.heap.size (fun k_ => k_ ≠ gb310) v8 x8_2) ∧ Aside0 (w'.heap[gb309]? = some (.cells #[.int .i64 t305, .int .i64 t306, .int .i64 t307, .int .i64 t308] 24 (0, 0))) ∧ Aside0 (w'.heap[gb310]? = some (.cells #[.int .i64 31, .int .i64 1073741824] 27 (0, 0))) ∧ Aside0 (Below w.heap.size w w'))
          case atStart => exact ⟨(([] : List (S27))), (0), (by first | rfl | (simp; done) | (simp [*]; done)), H', ⟨Nat.le_refl _⟩, ⟨by first | exact Kd.R_nil _ _ _ _ _ | exact Kd.N_nil _ _ _ _ _ | exact Kd.V_nil _ _ _ _ _ | exact Kd.Q_nil _ _ _ _ _ | exact Kd.S_nil _ _ _ _ _⟩, ⟨by (try refine sO ?_); exact BK309.out⟩, ⟨by (try refine sO ?_); exact BK310.out⟩, ⟨by repeat (first | exact sH HB.out | refine sN (w := w) ?_ | with_reducible refine sG (w := w) ?_ (by assumption))⟩⟩
          case round =>
            clear H'
            try clear c1
            try clear c2
            try clear p2
            try clear q2
            try clear c3
            try clear p6
            try clear c9
            try clear c10
            try clear c11
            try clear c12
            try clear c13
            try clear c13b0
            try clear c14
            try clear c14b0
            try clear c14b1
            try clear c15
            try clear c15b0
            try clear c15b1
            try clear c16
            try clear c16b0
            try clear c16b1
            try clear c18
            try clear c18b0
            try clear c18b1
            try clear c19
            try clear c19b0
            try clear c20
            try clear c20b0
            try clear c21
            try clear c21b0
            try clear c23
            try clear c23b0
            try clear c23b1
            try clear c26
            try clear q26
            try clear c29
            try clear q29
            try clear hcz10_0
            try clear hcz10_1
            try clear hcz7_0
            try clear hcz7_1
            try clear hcz7_2
            try clear hcz7_3
            try clear hfz10_0
            try clear hfz10_1
            try clear hfz7_0
            try clear hfz7_1
            try clear hfz7_2
            try clear hfz7_3
            try clear p2
            try clear q026
            try clear q029
            try clear q26
            try clear q29
            obtain ⟨x8_2, x9_2, rfl, HA, HK2, HO_8, BK309, BK310, HB⟩ := hrel
            cases gk with
            | zero => exact absurd HA.out (by simp [twoslotlaw15_DescNames.l1])
            | succ k2 =>
              have H := HA.out
              clear HA
              simp only [twoslotlaw15_DescNames.l1] at H
              by_cases c32 : x9_2 < 9
              · rw [if_pos c32] at H
                have c32b0 : decide (x9_2 < 9) = true := decide_eq_true c32
                clear c32
                by_cases c33 : x8_2.length < 8796093022208
                · rw [if_pos c33] at H
                  have LMc33 := Aside0.mk c33
                  clear c33
                  obtain ⟨y327, hy327⟩ : ∃ y_ : List (S27), y_ = (x8_2 ++ [(⟨31, 1073741824⟩ : S27)]) := ⟨_, rfl⟩
                  replace H : (twoslotlaw15_DescNames.l1 k2 y327 (wrap64 (x9_2 + 1)) t305 t306 t307 t308 31 1073741824) = some r := by first | (rw [hy327]; with_reducible exact H) | (have H2_ := (Option.bind_some _ _).symm.trans H; rw [hy327]; with_reducible exact H2_) | (have H2_ := (Option.bind_some _ _).symm.trans H; with_reducible exact H2_) | with_reducible exact H | (rw [hy327]; exact H) | exact H
                  have Ny327 := Aside0.mk hy327
                  clear hy327
                  have H' := Aside0.mk H
                  clear H
                  have hnb34 := NB310_309.out
                  have hnc34 := NB309_310.out
                  obtain ⟨hcz35_0, hcz35_1, hfz35_0, hfz35_1⟩ := cs2 BK310.out
                  go_wp2_with (first | ((with_reducible refine gate_builtin (b := .append) (xs := #[.tmp 77, .tmp 79]) rfl ?_); (try (refine gate_guard (by rfl) ?_; dsimp only)); at_builtin; refine Kd.R_append k27 (w0 := w) w.heap.size rfl (.tmp 77) (.tmp 79) 28 27 (.agg #[(.int .i64 0), (.int .i64 0)]) 16 rfl Try.underlying28 info27 rfl (by decide) (by omega) u8 x8_2 (⟨31, 1073741824⟩ : S27) [.int .i64 31, .int .i64 1073741824] (fun k_ => k_ ≠ gb310) (fun _ => False) rfl rfl ?aP (fun _ hk => hk.elim) ?aF ?aO ?aB ?aS ?aL ?_; (case aP => exact k27_mkM _ _ _ (⟨31, 1073741824⟩ : S27)); (case aB => exact (by repeat (first | exact sH HB.out | refine sN (w := w) ?_ | with_reducible refine sG (w := w) ?_ (by assumption)))); (case aF => exact (fun k_ hk => Kd.freshB (g := gb310) (o := .cells #[.int .i64 31, .int .i64 1073741824] 27 (0, 0)) (by first | exact BK310.out | (refine sO ?_; exact BK310.out)) k_ hk)); (case aO => exact (sR HO_8.out)); (case aS => exact (below_size (by repeat (first | exact sH HB.out | refine sN (w := w) ?_ | with_reducible refine sG (w := w) ?_ (by assumption))))); (case aL => have := LMc33.out; omega); intro v328 w36 ho hb hg hat; rw [← Ny327.out] at ho; have n0_ := Aside0.mk (blk_grown (g := gb309) (o := .cells #[.int .i64 t305, .int .i64 t306, .int .i64 t307, .int .i64 t308] 24 (0, 0)) (by first | exact BK309.out | (refine sO ?_; exact BK309.out)) hg (Kd.R_ne HO_8.out BK309.out (by decide))); have n1_ := Aside0.mk (blk_grown (g := gb310) (o := .cells #[.int .i64 31, .int .i64 1073741824] 27 (0, 0)) (by first | exact BK310.out | (refine sO ?_; exact BK310.out)) hg (Kd.R_away HO_8.out (fun _ hk => hk))); have n2_ := Aside0.mk (hb); have n3_ := Aside0.mk (ho); clear BK309; clear BK310; clear HB; clear HO_8; have BK309 := n0_; have BK310 := n1_; have HB := n2_; have HO329 := n3_; clear n0_ n1_ n2_ n3_; clear ho hb hg hat))
                  go_roundg k2
                  case measure => have := HK1.out; have := HK2.out; omega
                  case rel => exact ⟨(y327), (wrap64 (x9_2 + 1)), (by first | rfl | (simp; done) | (simp [*]; done)), H', ⟨by have := HK1.out; have := HK2.out; omega⟩, ⟨by (with_reducible repeat (first | apply Kd.R_alloc | apply Kd.R_drewN | apply Kd.R_drew)); exact HO329.out⟩, ⟨by (try refine sO ?_); exact BK309.out⟩, ⟨by (try refine sO ?_); exact BK310.out⟩, ⟨by repeat (first | exact sH HB.out | refine sN (w := w) ?_ | with_reducible refine sG (w := w) ?_ (by assumption))⟩⟩
                · rw [if_neg c33] at H
                  exact absurd H (by simp)
              · rw [if_neg c32] at H
                have c32b0 : decide (x9_2 < 9) = false := decide_eq_false c32
                clear c32
                replace H := Option.bind_eq_some_iff.mp H
                obtain ⟨t330, A370, H⟩ := H
                try dsimp only at H
                have A37 := Aside0.mk A370
                clear A370
                replace H := Option.bind_eq_some_iff.mp H
                obtain ⟨t333, A380, H⟩ := H
                try dsimp only at H
                have A38 := Aside0.mk A380
                clear A380
                replace H := Option.bind_eq_some_iff.mp H
                obtain ⟨⟨t336, t339⟩, A390, H⟩ := H
                try dsimp only at H
                have A39 := Aside0.mk A390
                clear A390
                replace H := Option.bind_eq_some_iff.mp H
                obtain ⟨⟨t340, t343⟩, A400, H⟩ := H
                try dsimp only at H
                have A40 := Aside0.mk A400
                clear A400
                replace H := Option.bind_eq_some_iff.mp H
                obtain ⟨⟨t344, t347⟩, A410, H⟩ := H
                try dsimp only at H
                have A41 := Aside0.mk A410
                clear A410
                replace H := Option.bind_eq_some_iff.mp H
                obtain ⟨⟨t348, t351⟩, A420, H⟩ := H
                try dsimp only at H
                have A42 := Aside0.mk A420
                clear A420
                replace H := Option.bind_eq_some_iff.mp H
                obtain ⟨⟨t352, t355⟩, A430, H⟩ := H
                try dsimp only at H
                have A43 := Aside0.mk A430
                clear A430
                by_cases c44 : 1 ≤ (x8_2.length : Int)
                · rw [if_pos c44] at H
                  have c44b0 := eq_true c44
                  have c44b1 : decide (1 ≤ (x8_2.length : Int)) = true := decide_eq_true c44
                  clear c44
                  obtain ⟨y356, hy356⟩ : ∃ y_ : List (S27), y_ = (x8_2.take 1) := ⟨_, rfl⟩
                  replace H : ((desc_Bytes.f k2 t305 t306 t307 t308 577 1 y356).bind fun bt360 => ((desc_Bytes.f k2 t305 t306 t307 t308 5760 1 x8_2).bind fun bt364 => ((desc_Bytes.f k2 t305 t306 t307 t308 5761 1 t330).bind fun bt368 => ((desc_Bytes.f k2 t305 t306 t307 t308 577 0 t330).bind fun bt372 => ((desc_Parse.f k2 0 0 0 0 ([] : List Int)).bind fun bt376 => ((desc_Refs.f k2 t305 t306 t307 t308 ([] : List Int) 0).bind fun bt382 => (if t339 = 0 then (if t343 = 20 then (if t347 = 0 then (if t351 = 20 then (if t355 = 0 then (if bt360.2 = 0 then (if bt364.2 = 0 then (if bt368.2 = 150 then (if bt372.2 = 150 then (if bt376.2.2.2 = 2 then (if bt382.2 = 20 then (if (t352.length : Int) = 64 then (if (bt360.1.length : Int) = 64 then (if (bt364.1.length : Int) = 64 then (if (t344.length : Int) = 10 then (if 9 < (t344.length : Int) then (if (((rd_T27 t344 9).f0) == 31 && (((rd_T27 t344 9).f1) == 1073741824)) = true then (if 2 < (t352.length : Int) then (if (rd t352 2) = 2 then (if 3 < (t352.length : Int) then (if (rd t352 3) = 64 then (if 6 < (t352.length : Int) then (if (rd t352 6) = 9 then (if 4 < (bt360.1.length : Int) then (if (rd bt360.1 4) = 1 then (if 6 < (bt360.1.length : Int) then (if (rd bt360.1 6) = 1 then (if 9 < (bt360.1.length : Int) then (if (rd bt360.1 9) = 64 then (if 2 < (bt364.1.length : Int) then (if (rd bt364.1 2) = 22 then (if 3 < (bt364.1.length : Int) then (some ((rd bt364.1 3) == 128)) else (none)) else (none)) else (none)) else (none)) else (none)) else (none)) else (none)) else (none)) else (none)) else (none)) else (none)) else (none)) else (none)) else (none)) else (none)) else (none)) else (none)) else (none)) else (none)) else (none)) else (none)) else (none)) else (none)) else (none)) else (none)) else (none)) else (none)) else (none)) else (none)) else (none)) else (none)) else (none)))))))) = some r := by first | (rw [hy356]; with_reducible exact H) | (have H2_ := (Option.bind_some _ _).symm.trans H; rw [hy356]; with_reducible exact H2_) | (have H2_ := (Option.bind_some _ _).symm.trans H; with_reducible exact H2_) | with_reducible exact H | (rw [hy356]; exact H) | exact H
                  have Ny356 := Aside0.mk hy356
                  clear hy356
                  replace H := Option.bind_eq_some_iff.mp H
                  obtain ⟨⟨t360, t363⟩, A450, H⟩ := H
                  try dsimp only at H
                  have A45 := Aside0.mk A450
                  clear A450
                  replace H := Option.bind_eq_some_iff.mp H
                  obtain ⟨⟨t364, t367⟩, A460, H⟩ := H
                  try dsimp only at H
                  have A46 := Aside0.mk A460
                  clear A460
                  replace H := Option.bind_eq_some_iff.mp H
                  obtain ⟨⟨t368, t371⟩, A470, H⟩ := H
                  try dsimp only at H
                  have A47 := Aside0.mk A470
                  clear A470
                  replace H := Option.bind_eq_some_iff.mp H
                  obtain ⟨⟨t372, t375⟩, A480, H⟩ := H
                  try dsimp only at H
                  have A48 := Aside0.mk A480
                  clear A480
                  replace H := Option.bind_eq_some_iff.mp H
                  obtain ⟨⟨t376, t377, t378, t381⟩, A490, H⟩ := H
                  try dsimp only at H
                  have A49 := Aside0.mk A490
                  clear A490
                  replace H := Option.bind_eq_some_iff.mp H
                  obtain ⟨⟨t382, t385⟩, A500, H⟩ := H
                  try dsimp only at H
                  have A50 := Aside0.mk A500
                  clear A500
                  by_cases c51 : t339 = 0
                  · rw [if_pos c51] at H
                    have c51b0 : (t339 == 0) = true := beq_iff_eq.mpr c51
                    have c51b1 : (t339 != 0) = false := bne_eq_false_iff_eq.mpr c51
                    clear c51
                    by_cases c52 : t343 = 20
                    · rw [if_pos c52] at H
                      have c52b0 : (t343 == 20) = true := beq_iff_eq.mpr c52
                      have c52b1 : (t343 != 20) = false := bne_eq_false_iff_eq.mpr c52
                      clear c52
                      by_cases c53 : t347 = 0
                      · rw [if_pos c53] at H
                        have c53b0 : (t347 == 0) = true := beq_iff_eq.mpr c53
                        have c53b1 : (t347 != 0) = false := bne_eq_false_iff_eq.mpr c53
                        clear c53
                        by_cases c54 : t351 = 20
                        · rw [if_pos c54] at H
                          have c54b0 : (t351 == 20) = true := beq_iff_eq.mpr c54
                          have c54b1 : (t351 != 20) = false := bne_eq_false_iff_eq.mpr c54
                          clear c54
                          by_cases c55 : t355 = 0
                          · rw [if_pos c55] at H
                            have c55b0 : (t355 == 0) = true := beq_iff_eq.mpr c55
                            have c55b1 : (t355 != 0) = false := bne_eq_false_iff_eq.mpr c55
                            clear c55
                            by_cases c56 : t363 = 0
                            · rw [if_pos c56] at H
                              have c56b0 : (t363 == 0) = true := beq_iff_eq.mpr c56
                              have c56b1 : (t363 != 0) = false := bne_eq_false_iff_eq.mpr c56
                              clear c56
                              by_cases c57 : t367 = 0
                              · rw [if_pos c57] at H
                                have c57b0 : (t367 == 0) = true := beq_iff_eq.mpr c57
                                have c57b1 : (t367 != 0) = false := bne_eq_false_iff_eq.mpr c57
                                clear c57
                                by_cases c58 : t371 = 150
                                · rw [if_pos c58] at H
                                  have c58b0 : (t371 == 150) = true := beq_iff_eq.mpr c58
                                  have c58b1 : (t371 != 150) = false := bne_eq_false_iff_eq.mpr c58
                                  clear c58
                                  by_cases c59 : t375 = 150
                                  · rw [if_pos c59] at H
                                    have c59b0 : (t375 == 150) = true := beq_iff_eq.mpr c59
                                    have c59b1 : (t375 != 150) = false := bne_eq_false_iff_eq.mpr c59
                                    clear c59
                                    by_cases c60 : t381 = 2
                                    · rw [if_pos c60] at H
                                      have c60b0 : (t381 == 2) = true := beq_iff_eq.mpr c60
                                      have c60b1 : (t381 != 2) = false := bne_eq_false_iff_eq.mpr c60
                                      clear c60
                                      by_cases c61 : t385 = 20
                                      · rw [if_pos c61] at H
                                        have c61b0 : (t385 == 20) = true := beq_iff_eq.mpr c61
                                        have c61b1 : (t385 != 20) = false := bne_eq_false_iff_eq.mpr c61
                                        clear c61
                                        by_cases c62 : (t352.length : Int) = 64
                                        · rw [if_pos c62] at H
                                          have c62b0 : ((t352.length : Int) == 64) = true := beq_iff_eq.mpr c62
                                          have c62b1 : ((t352.length : Int) != 64) = false := bne_eq_false_iff_eq.mpr c62
                                          clear c62
                                          by_cases c63 : (t360.length : Int) = 64
                                          · rw [if_pos c63] at H
                                            have c63b0 : ((t360.length : Int) == 64) = true := beq_iff_eq.mpr c63
                                            have c63b1 : ((t360.length : Int) != 64) = false := bne_eq_false_iff_eq.mpr c63
                                            clear c63
                                            by_cases c64 : (t364.length : Int) = 64
                                            · rw [if_pos c64] at H
                                              have c64b0 : ((t364.length : Int) == 64) = true := beq_iff_eq.mpr c64
                                              have c64b1 : ((t364.length : Int) != 64) = false := bne_eq_false_iff_eq.mpr c64
                                              clear c64
                                              by_cases c65 : (t344.length : Int) = 10
                                              · rw [if_pos c65] at H
                                                have c65b0 : ((t344.length : Int) == 10) = true := beq_iff_eq.mpr c65
                                                have c65b1 : ((t344.length : Int) != 10) = false := bne_eq_false_iff_eq.mpr c65
                                                clear c65
                                                by_cases c66 : 9 < (t344.length : Int)
                                                · rw [if_pos c66] at H
                                                  have c66b0 : decide (9 < (t344.length : Int)) = true := decide_eq_true c66
                                                  have c66b1 : decide (9 < t344.length) = true := decide_eq_true (by omega)
                                                  clear c66
                                                  by_cases c67 : (((rd_T27 t344 9).f0) == 31 && (((rd_T27 t344 9).f1) == 1073741824)) = true
                                                  · rw [if_pos c67] at H
                                                    have c67b0 : (((rd_T27 t344 9).f0) == 31 && (((rd_T27 t344 9).f1) == 1073741824)) = true := c67
                                                    (try (have c67b1 : decide (((rd_T27 t344 9).f0) = 31 && (((rd_T27 t344 9).f1) == 1073741824)) = true := by simpa using c67))
                                                    (try (have c67b2 : (((rd_T27 t344 9).f0) == 31 && (((rd_T27 t344 9).f1) == 1073741824)) = true := by simpa using c67))
                                                    clear c67
                                                    by_cases c68 : 2 < (t352.length : Int)
                                                    · rw [if_pos c68] at H
                                                      have c68b0 : decide (2 < (t352.length : Int)) = true := decide_eq_true c68
                                                      have c68b1 : decide (2 < t352.length) = true := decide_eq_true (by omega)
                                                      clear c68
                                                      by_cases c69 : (rd t352 2) = 2
                                                      · rw [if_pos c69] at H
                                                        have c69b0 : ((rd t352 2) == 2) = true := beq_iff_eq.mpr c69
                                                        have c69b1 : ((rd t352 2) != 2) = false := bne_eq_false_iff_eq.mpr c69
                                                        clear c69
                                                        by_cases c70 : 3 < (t352.length : Int)
                                                        · rw [if_pos c70] at H
                                                          have c70b0 : decide (3 < (t352.length : Int)) = true := decide_eq_true c70
                                                          have c70b1 : decide (3 < t352.length) = true := decide_eq_true (by omega)
                                                          clear c70
                                                          by_cases c71 : (rd t352 3) = 64
                                                          · rw [if_pos c71] at H
                                                            have c71b0 : ((rd t352 3) == 64) = true := beq_iff_eq.mpr c71
                                                            have c71b1 : ((rd t352 3) != 64) = false := bne_eq_false_iff_eq.mpr c71
                                                            clear c71
                                                            by_cases c72 : 6 < (t352.length : Int)
                                                            · rw [if_pos c72] at H
                                                              have c72b0 : decide (6 < (t352.length : Int)) = true := decide_eq_true c72
                                                              have c72b1 : decide (6 < t352.length) = true := decide_eq_true (by omega)
                                                              clear c72
                                                              by_cases c73 : (rd t352 6) = 9
                                                              · rw [if_pos c73] at H
                                                                have c73b0 : ((rd t352 6) == 9) = true := beq_iff_eq.mpr c73
                                                                have c73b1 : ((rd t352 6) != 9) = false := bne_eq_false_iff_eq.mpr c73
                                                                clear c73
                                                                by_cases c74 : 4 < (t360.length : Int)
                                                                · rw [if_pos c74] at H
                                                                  have c74b0 : decide (4 < (t360.length : Int)) = true := decide_eq_true c74
                                                                  have c74b1 : decide (4 < t360.length) = true := decide_eq_true (by omega)
                                                                  clear c74
                                                                  by_cases c75 : (rd t360 4) = 1
                                                                  · rw [if_pos c75] at H
                                                                    have c75b0 : ((rd t360 4) == 1) = true := beq_iff_eq.mpr c75
                                                                    have c75b1 : ((rd t360 4) != 1) = false := bne_eq_false_iff_eq.mpr c75
                                                                    clear c75
                                                                    by_cases c76 : 6 < (t360.length : Int)
                                                                    · rw [if_pos c76] at H
                                                                      have c76b0 : decide (6 < (t360.length : Int)) = true := decide_eq_true c76
                                                                      have c76b1 : decide (6 < t360.length) = true := decide_eq_true (by omega)
                                                                      clear c76
                                                                      by_cases c77 : (rd t360 6) = 1
                                                                      · rw [if_pos c77] at H
                                                                        have c77b0 : ((rd t360 6) == 1) = true := beq_iff_eq.mpr c77
                                                                        have c77b1 : ((rd t360 6) != 1) = false := bne_eq_false_iff_eq.mpr c77
                                                                        clear c77
                                                                        by_cases c78 : 9 < (t360.length : Int)
                                                                        · rw [if_pos c78] at H
                                                                          have c78b0 : decide (9 < (t360.length : Int)) = true := decide_eq_true c78
                                                                          have c78b1 : decide (9 < t360.length) = true := decide_eq_true (by omega)
                                                                          clear c78
                                                                          by_cases c79 : (rd t360 9) = 64
                                                                          · rw [if_pos c79] at H
                                                                            have c79b0 : ((rd t360 9) == 64) = true := beq_iff_eq.mpr c79
                                                                            have c79b1 : ((rd t360 9) != 64) = false := bne_eq_false_iff_eq.mpr c79
                                                                            clear c79
                                                                            by_cases c80 : 2 < (t364.length : Int)
                                                                            · rw [if_pos c80] at H
                                                                              have c80b0 : decide (2 < (t364.length : Int)) = true := decide_eq_true c80
                                                                              have c80b1 : decide (2 < t364.length) = true := decide_eq_true (by omega)
                                                                              clear c80
                                                                              by_cases c81 : (rd t364 2) = 22
                                                                              · rw [if_pos c81] at H
                                                                                have c81b0 : ((rd t364 2) == 22) = true := beq_iff_eq.mpr c81
                                                                                have c81b1 : ((rd t364 2) != 22) = false := bne_eq_false_iff_eq.mpr c81
                                                                                clear c81
                                                                                by_cases c82 : 3 < (t364.length : Int)
                                                                                · rw [if_pos c82] at H
                                                                                  have c82b0 : decide (3 < (t364.length : Int)) = true := decide_eq_true c82
                                                                                  have c82b1 : decide (3 < t364.length) = true := decide_eq_true (by omega)
                                                                                  clear c82
                                                                                  obtain rfl := Option.some.inj H
                                                                                  try go_wp2
                                                                                  replace HO_8 := Aside0.mk (Kd.R_drew HO_8.out); replace BK309 := Aside0.mk (blk_drew BK309.out); replace BK310 := Aside0.mk (blk_drew BK310.out); replace HB := Aside0.mk (below_drew1 HB.out)
                                                                                  obtain ⟨Ao84, co84, eo84⟩ := Kd.R_slice HO_8.out
                                                                                  (first | subst eo84 | (injection eo84 with f1_ f2_ f3_; have f4_ := f1_.symm; have f5_ := f3_.symm; clear f1_ f2_ f3_; subst f4_; subst f5_))
                                                                                  refine start_ (n := 6) (S := fun w' => w'.cell? ⟨gb310, 0, none⟩ = some (.int .i64 31) ∧ w'.cell? ⟨gb310, 1, none⟩ = some (.int .i64 1073741824)) (ds := []) #[O, O, O, O, O, O] (by kernel_rfl) rfl rfl ⟨(blk_cell BK310.out 0).trans rfl, (blk_cell BK310.out 1).trans rfl⟩ (fun hHeld => ?_)
                                                                                  generalize wr.drew = w83 at HO_8 BK309 BK310 HB hHeld ⊢
                                                                                  refine pure_ (i := 0) (N := some 81) (v := ?_) (a' := ?_) #[X, O, O, O, O, O] rfl rfl (by kernel_rfl) (fun _ _ _ h => h) (Or.inl ⟨by rfl, ?_⟩) ?_ ?_
                                                                                  rotate_left
                                                                                  · intro w'; go_simp; with_reducible rfl
                                                                                  rotate_left
                                                                                  · simp only [sP]
                                                                                    rfl
                                                                                  refine pure_ (i := 1) (N := some 82) (v := ?_) (a' := ?_) #[X, X, O, O, O, O] rfl rfl (by kernel_rfl) (fun _ _ _ h => h) (Or.inl ⟨by rfl, ?_⟩) ?_ ?_
                                                                                  rotate_left
                                                                                  · intro w'
                                                                                    have hs_ := grow_cut2 w' HO_8.out (n := 9) (k := 9) (by have := (ref_grow.is A37.out).1; omega) (by omega) rfl
                                                                                    go_simp
                                                                                    with_reducible rfl
                                                                                  rotate_left
                                                                                  · simp only [sP]
                                                                                    rfl
                                                                                  refine take_ (i := 2) (N := some 83) (v := ?_) (a' := ?_) #[X, X, X, O, O, O] rfl rfl (by kernel_rfl) (fun _ _ _ h => h) (Or.inl ⟨by rfl, ?_⟩) hHeld ?_ ?_
                                                                                  rotate_left
                                                                                  · rintro w' ⟨s0, s1⟩; go_simp; with_reducible rfl
                                                                                  rotate_left
                                                                                  · simp only [sP]
                                                                                    rfl
                                                                                  refine one_ (i := 3) (N := some 84) #[X, X, X, X, O, O] rfl rfl (by kernel_rfl) (by decide) (fun K hK => ?_)
                                                                                  refine value_ (w1 := w83.alloc (.cells #[.int .i64 31, .int .i64 1073741824] 27)) (v := .slice (some ⟨w83.heap.size, 0, none⟩) 1 1) (by rfl) rfl ?_ ?_
                                                                                  · go_simp
                                                                                  refine hK.out _ _ ⟨(blk_cell (blk_alloc BK310.out _) 0).trans rfl, (blk_cell (blk_alloc BK310.out _) 1).trans rfl⟩ (fun hHeld => ?_)
                                                                                  clear hK K
                                                                                  refine norm_ (a' := ?_) ?_ ?_
                                                                                  rotate_left
                                                                                  · show Act.put _ (some 84) _ = _
                                                                                    simp only [sP]
                                                                                    rfl
                                                                                  refine one_ (i := 4) (N := some 85) #[X, X, X, X, X, O] rfl rfl (by kernel_rfl) (by decide) (fun K hK => ?_)
                                                                                  obtain ⟨v331, w85, hrun_, ho0, hb⟩ := grow_ev w83 _ _ Ao84 9 co84 x8_2 t330 31 1073741824 9 HO_8.out rfl A37.out
                                                                                  refine grow_step (by rfl) 85 rfl (.tmp 82) (.tmp 84) rfl rfl _ _ rfl rfl hrun_ ?_
                                                                                  clear hrun_; have n0_ := Aside0.mk (Kd.R_elder' (sR HO_8.out) (Kd.R_base ho0) hb); have n1_ := Aside0.mk (Kd.R_lower (Kd.R_newB (Kd.R_new' ho0 (Kd.R_lt (sR HO_8.out))) (g := gb310) (o := .cells #[.int .i64 31, .int .i64 1073741824] 27 (0, 0)) (by first | exact BK310.out | (refine sO ?_; exact BK310.out))) (below_size (by repeat (first | exact sH HB.out | refine sN (w := w) ?_ | with_reducible refine sG (w := w) ?_ (by assumption))))); have n2_ := Aside0.mk (blk_below (sB BK309.out) hb); have n3_ := Aside0.mk (blk_below (sB BK310.out) hb); have n4_ := Aside0.mk (below_step (by repeat (first | exact sH HB.out | refine sN (w := w) ?_ | with_reducible refine sG (w := w) ?_ (by assumption))) hb); clear HO_8; clear BK309; clear BK310; clear HB; have HO_8 := n0_; have HO332 := n1_; have BK309 := n2_; have BK310 := n3_; have HB := n4_; clear n0_ n1_ n2_ n3_ n4_
                                                                                  (try clear hb)
                                                                                  (try clear hb2)
                                                                                  (try clear hk)
                                                                                  (try clear hi)
                                                                                  (try clear ho0)
                                                                                  refine hK.out _ _ ⟨(blk_cell BK310.out 0).trans rfl, (blk_cell BK310.out 1).trans rfl⟩ (fun hHeld => ?_)
                                                                                  clear hK K
                                                                                  refine norm_ (a' := ?_) ?_ ?_
                                                                                  rotate_left
                                                                                  · show Act.put _ (some 85) _ = _
                                                                                    simp only [sP]
                                                                                    rfl
                                                                                  refine pure_ (i := 5) (N := some 10) (v := ?_) (a' := ?_) #[X, X, X, X, X, X] rfl rfl (by kernel_rfl) (fun _ _ _ h => h) (Or.inl ⟨by rfl, ?_⟩) ?_ ?_
                                                                                  rotate_left
                                                                                  · intro w'; go_simp; with_reducible rfl
                                                                                  rotate_left
                                                                                  · simp only [sP]
                                                                                    rfl
                                                                                  refine done_ (by kernel_rfl) ?_
                                                                                  try go_wp2
                                                                                  replace HO_8 := Aside0.mk (Kd.R_drew HO_8.out); replace HO332 := Aside0.mk (Kd.R_drew HO332.out); replace BK309 := Aside0.mk (blk_drew BK309.out); replace BK310 := Aside0.mk (blk_drew BK310.out); replace HB := Aside0.mk (below_drew1 HB.out)
                                                                                  obtain ⟨Ao87, co87, eo87⟩ := Kd.R_slice HO332.out
                                                                                  (first | subst eo87 | (injection eo87 with f1_ f2_ f3_; have f4_ := f1_.symm; have f5_ := f3_.symm; clear f1_ f2_ f3_; subst f4_; subst f5_))
                                                                                  refine start_ (n := 6) (S := fun w' => w'.cell? ⟨gb310, 0, none⟩ = some (.int .i64 31) ∧ w'.cell? ⟨gb310, 1, none⟩ = some (.int .i64 1073741824)) (ds := []) #[O, O, O, O, O, O] (by kernel_rfl) rfl rfl ⟨(blk_cell BK310.out 0).trans rfl, (blk_cell BK310.out 1).trans rfl⟩ (fun hHeld => ?_)
                                                                                  generalize w85.drew = w86 at HO_8 HO332 BK309 BK310 HB hHeld ⊢
                                                                                  refine pure_ (i := 0) (N := some 86) (v := ?_) (a' := ?_) #[X, O, O, O, O, O] rfl rfl (by kernel_rfl) (fun _ _ _ h => h) (Or.inl ⟨by rfl, ?_⟩) ?_ ?_
                                                                                  rotate_left
                                                                                  · intro w'; go_simp; with_reducible rfl
                                                                                  rotate_left
                                                                                  · simp only [sP]
                                                                                    rfl
                                                                                  refine pure_ (i := 1) (N := some 87) (v := ?_) (a' := ?_) #[X, X, O, O, O, O] rfl rfl (by kernel_rfl) (fun _ _ _ h => h) (Or.inl ⟨by rfl, ?_⟩) ?_ ?_
                                                                                  rotate_left
                                                                                  · intro w'
                                                                                    have hs_ := grow_cut2 w' HO332.out (n := 10) (k := 10) (by have := (ref_grow.is A38.out).1; omega) (by omega) rfl
                                                                                    go_simp
                                                                                    with_reducible rfl
                                                                                  rotate_left
                                                                                  · simp only [sP]
                                                                                    rfl
                                                                                  refine take_ (i := 2) (N := some 88) (v := ?_) (a' := ?_) #[X, X, X, O, O, O] rfl rfl (by kernel_rfl) (fun _ _ _ h => h) (Or.inl ⟨by rfl, ?_⟩) hHeld ?_ ?_
                                                                                  rotate_left
                                                                                  · rintro w' ⟨s0, s1⟩; go_simp; with_reducible rfl
                                                                                  rotate_left
                                                                                  · simp only [sP]
                                                                                    rfl
                                                                                  refine one_ (i := 3) (N := some 89) #[X, X, X, X, O, O] rfl rfl (by kernel_rfl) (by decide) (fun K hK => ?_)
                                                                                  refine value_ (w1 := w86.alloc (.cells #[.int .i64 31, .int .i64 1073741824] 27)) (v := .slice (some ⟨w86.heap.size, 0, none⟩) 1 1) (by rfl) rfl ?_ ?_
                                                                                  · go_simp
                                                                                  refine hK.out _ _ ⟨(blk_cell (blk_alloc BK310.out _) 0).trans rfl, (blk_cell (blk_alloc BK310.out _) 1).trans rfl⟩ (fun hHeld => ?_)
                                                                                  clear hK K
                                                                                  refine norm_ (a' := ?_) ?_ ?_
                                                                                  rotate_left
                                                                                  · show Act.put _ (some 89) _ = _
                                                                                    simp only [sP]
                                                                                    rfl
                                                                                  refine one_ (i := 4) (N := some 90) #[X, X, X, X, X, O] rfl rfl (by kernel_rfl) (by decide) (fun K hK => ?_)
                                                                                  obtain ⟨v334, w88, hrun_, ho0, hb⟩ := grow_ev w86 _ _ Ao87 10 co87 t330 t333 31 1073741824 10 HO332.out rfl A38.out
                                                                                  refine grow_step (by rfl) 90 rfl (.tmp 87) (.tmp 89) rfl rfl _ _ rfl rfl hrun_ ?_
                                                                                  clear hrun_; have n0_ := Aside0.mk (Kd.R_elder' (sR HO_8.out) (Kd.R_base ho0) hb); have n1_ := Aside0.mk (Kd.R_elder' (sR HO332.out) (Kd.R_base ho0) hb); have n2_ := Aside0.mk (Kd.R_lower (Kd.R_newB (Kd.R_new' (Kd.R_new' ho0 (Kd.R_lt (sR HO_8.out))) (Kd.R_lt (sR HO332.out))) (g := gb310) (o := .cells #[.int .i64 31, .int .i64 1073741824] 27 (0, 0)) (by first | exact BK310.out | (refine sO ?_; exact BK310.out))) (below_size (by repeat (first | exact sH HB.out | refine sN (w := w) ?_ | with_reducible refine sG (w := w) ?_ (by assumption))))); have n3_ := Aside0.mk (blk_below (sB BK309.out) hb); have n4_ := Aside0.mk (blk_below (sB BK310.out) hb); have n5_ := Aside0.mk (below_step (by repeat (first | exact sH HB.out | refine sN (w := w) ?_ | with_reducible refine sG (w := w) ?_ (by assumption))) hb); clear HO_8; clear HO332; clear BK309; clear BK310; clear HB; have HO_8 := n0_; have HO332 := n1_; have HO335 := n2_; have BK309 := n3_; have BK310 := n4_; have HB := n5_; clear n0_ n1_ n2_ n3_ n4_ n5_
                                                                                  (try clear hb)
                                                                                  (try clear hb2)
                                                                                  (try clear hk)
                                                                                  (try clear hi)
                                                                                  (try clear ho0)
                                                                                  refine hK.out _ _ ⟨(blk_cell BK310.out 0).trans rfl, (blk_cell BK310.out 1).trans rfl⟩ (fun hHeld => ?_)
                                                                                  clear hK K
                                                                                  refine norm_ (a' := ?_) ?_ ?_
                                                                                  rotate_left
                                                                                  · show Act.put _ (some 90) _ = _
                                                                                    simp only [sP]
                                                                                    rfl
                                                                                  refine pure_ (i := 5) (N := some 11) (v := ?_) (a' := ?_) #[X, X, X, X, X, X] rfl rfl (by kernel_rfl) (fun _ _ _ h => h) (Or.inl ⟨by rfl, ?_⟩) ?_ ?_
                                                                                  rotate_left
                                                                                  · intro w'; go_simp; with_reducible rfl
                                                                                  rotate_left
                                                                                  · simp only [sP]
                                                                                    rfl
                                                                                  refine done_ (by kernel_rfl) ?_
                                                                                  have hnb89 := NB309_310.out
                                                                                  have hnc89 := NB310_309.out
                                                                                  obtain ⟨hcz90_0, hcz90_1, hcz90_2, hcz90_3, hfz90_0, hfz90_1, hfz90_2, hfz90_3⟩ := cs4 BK309.out
                                                                                  try go_wp2_with (first | ((with_reducible refine gate_callee (f := 11) rfl ?_); refine goesL_ (some 94) rfl rfl Try.func11 (by kernel_rfl) rfl #[.agg #[.int .i64 t305, .int .i64 t306, .int .i64 t307, .int .i64 t308], .slice Ao87 t330.length co87] rfl (by (try simp only [sM]); first | done | rfl | (simp only [sT]; rfl)) ?_; (with_reducible refine (desc_Leaf.calls k2 t305 t306 t307 t308 _ _ t330 t336 t339 _ ?side1 ?side2 A39.out).mono ?_); (case side1 => exact sC (Kd.R_reads' HO332.out).2.2); (case side2 => exact (Kd.R_reads' HO332.out).2.1); rintro e w91 ⟨v337, rfl, ho0, hb⟩; refine ⟨_, rfl, ?_⟩; replace HO_8 := Aside0.mk (Kd.R_below (sR HO_8.out) hb); replace HO332 := Aside0.mk (Kd.R_below (sR HO332.out) hb); replace HO335 := Aside0.mk (Kd.R_below (sR HO335.out) hb); have HO338 := Aside0.mk (Kd.R_lower ho0 (below_size (by repeat (first | exact sH HB.out | refine sN (w := w) ?_ | with_reducible refine sG (w := w) ?_ (by assumption))))); replace BK309 := kB BK309 hb; replace BK310 := kB BK310 hb; replace HB := Aside0.mk (below_step (by repeat (first | exact sH HB.out | refine sN (w := w) ?_ | with_reducible refine sG (w := w) ?_ (by assumption))) hb); (try clear hb); (try clear hb2); (try clear hk); (try clear hi); (try clear ho0); obtain ⟨hcz92_0, hcz92_1, hcz92_2, hcz92_3, hfz92_0, hfz92_1, hfz92_2, hfz92_3⟩ := cs4 BK309.out; obtain ⟨Ao93, co93, eo93⟩ := Kd.R_slice HO335.out; subst eo93) | ((with_reducible refine gate_callee (f := 11) rfl ?_); refine goesL_ (some 100) rfl rfl Try.func11 (by kernel_rfl) rfl #[.agg #[.int .i64 t305, .int .i64 t306, .int .i64 t307, .int .i64 t308], .slice Ao93 t333.length co93] rfl (by (try simp only [sM]); first | done | rfl | (simp only [sT]; rfl)) ?_; (with_reducible refine (desc_Leaf.calls k2 t305 t306 t307 t308 _ _ t333 t340 t343 _ ?side1 ?side2 A40.out).mono ?_); (case side1 => exact sC (Kd.R_reads' HO335.out).2.2); (case side2 => exact (Kd.R_reads' HO335.out).2.1); rintro e w94 ⟨v341, rfl, ho0, hb⟩; refine ⟨_, rfl, ?_⟩; replace HO_8 := Aside0.mk (Kd.R_below (sR HO_8.out) hb); replace HO332 := Aside0.mk (Kd.R_below (sR HO332.out) hb); replace HO335 := Aside0.mk (Kd.R_below (sR HO335.out) hb); have HO342 := Aside0.mk (Kd.R_lower (Kd.R_new' ho0 (Kd.R_lt (sR HO338.out))) (below_size (by repeat (first | exact sH HB.out | refine sN (w := w) ?_ | with_reducible refine sG (w := w) ?_ (by assumption))))); replace HO338 := Aside0.mk (Kd.R_elder' (sR HO338.out) (Kd.R_base ho0) hb); replace BK309 := kB BK309 hb; replace BK310 := kB BK310 hb; replace HB := Aside0.mk (below_step (by repeat (first | exact sH HB.out | refine sN (w := w) ?_ | with_reducible refine sG (w := w) ?_ (by assumption))) hb); (try clear hb); (try clear hb2); (try clear hk); (try clear hi); (try clear ho0); obtain ⟨hcz95_0, hcz95_1, hcz95_2, hcz95_3, hfz95_0, hfz95_1, hfz95_2, hfz95_3⟩ := cs4 BK309.out; obtain ⟨Ao96, co96, eo96⟩ := Kd.R_slice HO338.out; subst eo96) | ((with_reducible refine gate_callee (f := 13) rfl ?_); refine goesL_ (some 106) rfl rfl Try.func13 (by kernel_rfl) rfl #[.agg #[.int .i64 t305, .int .i64 t306, .int .i64 t307, .int .i64 t308], .slice Ao96 t336.length co96, .int .i64 10] rfl (by (try simp only [sM]); first | done | rfl | (simp only [sT]; rfl)) ?_; (with_reducible refine (desc_Refs.calls k2 t305 t306 t307 t308 _ _ t336 10 t344 t347 _ ?side1 ?side2 A41.out).mono ?_); (case side1 => exact sC (Kd.R_reads' HO338.out).2.2); (case side2 => exact (Kd.R_reads' HO338.out).2.1); rintro e w97 ⟨v345, rfl, ho0, hb⟩; refine ⟨_, rfl, ?_⟩; replace HO338 := Aside0.mk (Kd.R_below (sR HO338.out) hb); replace HO342 := Aside0.mk (Kd.R_below (sR HO342.out) hb); have HO346 := Aside0.mk (Kd.R_lower (Kd.R_newB (Kd.R_new' (Kd.R_new' (Kd.R_new' ho0 (Kd.R_lt (sR HO_8.out))) (Kd.R_lt (sR HO332.out))) (Kd.R_lt (sR HO335.out))) (g := gb310) (o := .cells #[.int .i64 31, .int .i64 1073741824] 27 (0, 0)) (by first | exact BK310.out | (refine sO ?_; exact BK310.out))) (below_size (by repeat (first | exact sH HB.out | refine sN (w := w) ?_ | with_reducible refine sG (w := w) ?_ (by assumption))))); replace HO_8 := Aside0.mk (Kd.R_elder' (sR HO_8.out) (Kd.R_base ho0) hb); replace HO332 := Aside0.mk (Kd.R_elder' (sR HO332.out) (Kd.R_base ho0) hb); replace HO335 := Aside0.mk (Kd.R_elder' (sR HO335.out) (Kd.R_base ho0) hb); replace BK309 := kB BK309 hb; replace BK310 := kB BK310 hb; replace HB := Aside0.mk (below_step (by repeat (first | exact sH HB.out | refine sN (w := w) ?_ | with_reducible refine sG (w := w) ?_ (by assumption))) hb); (try clear hb); (try clear hb2); (try clear hk); (try clear hi); (try clear ho0); obtain ⟨hcz98_0, hcz98_1, hcz98_2, hcz98_3, hfz98_0, hfz98_1, hfz98_2, hfz98_3⟩ := cs4 BK309.out) | ((with_reducible refine gate_callee (f := 13) rfl ?_); refine goesL_ (some 112) rfl rfl Try.func13 (by kernel_rfl) rfl #[.agg #[.int .i64 t305, .int .i64 t306, .int .i64 t307, .int .i64 t308], .slice Ao96 t336.length co96, .int .i64 11] rfl (by (try simp only [sM]); first | done | rfl | (simp only [sT]; rfl)) ?_; (with_reducible refine (desc_Refs.calls k2 t305 t306 t307 t308 _ _ t336 11 t348 t351 _ ?side1 ?side2 A42.out).mono ?_); (case side1 => exact sC (Kd.R_reads' HO338.out).2.2); (case side2 => exact (Kd.R_reads' HO338.out).2.1); rintro e w99 ⟨v349, rfl, ho0, hb⟩; refine ⟨_, rfl, ?_⟩; replace HO338 := Aside0.mk (Kd.R_below (sR HO338.out) hb); replace HO342 := Aside0.mk (Kd.R_below (sR HO342.out) hb); have HO350 := Aside0.mk (Kd.R_lower (Kd.R_newB (Kd.R_new' (Kd.R_new' (Kd.R_new' (Kd.R_new' ho0 (Kd.R_lt (sR HO_8.out))) (Kd.R_lt (sR HO332.out))) (Kd.R_lt (sR HO335.out))) (Kd.R_lt (sR HO346.out))) (g := gb310) (o := .cells #[.int .i64 31, .int .i64 1073741824] 27 (0, 0)) (by first | exact BK310.out | (refine sO ?_; exact BK310.out))) (below_size (by repeat (first | exact sH HB.out | refine sN (w := w) ?_ | with_reducible refine sG (w := w) ?_ (by assumption))))); replace HO_8 := Aside0.mk (Kd.R_elder' (sR HO_8.out) (Kd.R_base ho0) hb); replace HO332 := Aside0.mk (Kd.R_elder' (sR HO332.out) (Kd.R_base ho0) hb); replace HO335 := Aside0.mk (Kd.R_elder' (sR HO335.out) (Kd.R_base ho0) hb); replace HO346 := Aside0.mk (Kd.R_elder' (sR HO346.out) (Kd.R_base ho0) hb); replace BK309 := kB BK309 hb; replace BK310 := kB BK310 hb; replace HB := Aside0.mk (below_step (by repeat (first | exact sH HB.out | refine sN (w := w) ?_ | with_reducible refine sG (w := w) ?_ (by assumption))) hb); (try clear hb); (try clear hb2); (try clear hk); (try clear hi); (try clear ho0); obtain ⟨hcz100_0, hcz100_1, hcz100_2, hcz100_3, hfz100_0, hfz100_1, hfz100_2, hfz100_3⟩ := cs4 BK309.out) | ((with_reducible refine gate_callee (f := 14) rfl ?_); refine goesL_ (some 119) rfl rfl Try.func14 (by kernel_rfl) rfl #[.agg #[.int .i64 t305, .int .i64 t306, .int .i64 t307, .int .i64 t308], .agg #[.int .i64 576, .int .i64 0, .slice Ao84 x8_2.length co84]] rfl (by (try simp only [sM]); first | done | rfl | (simp only [sT]; rfl)) ?_; (with_reducible refine (desc_Bytes.calls k2 t305 t306 t307 t308 576 0 _ _ x8_2 t352 t355 _ ?side1 ?side2 A43.out).mono ?_); (case side1 => exact sC (Kd.R_reads' HO_8.out).2.2); (case side2 => exact (Kd.R_reads' HO_8.out).2.1); rintro e w101 ⟨v353, rfl, ho0, hb⟩; refine ⟨_, rfl, ?_⟩; replace HO_8 := Aside0.mk (Kd.R_below (sR HO_8.out) hb); replace HO332 := Aside0.mk (Kd.R_below (sR HO332.out) hb); replace HO335 := Aside0.mk (Kd.R_below (sR HO335.out) hb); replace HO346 := Aside0.mk (Kd.R_below (sR HO346.out) hb); replace HO350 := Aside0.mk (Kd.R_below (sR HO350.out) hb); have HO354 := Aside0.mk (Kd.R_lower (Kd.R_new' (Kd.R_new' ho0 (Kd.R_lt (sR HO338.out))) (Kd.R_lt (sR HO342.out))) (below_size (by repeat (first | exact sH HB.out | refine sN (w := w) ?_ | with_reducible refine sG (w := w) ?_ (by assumption))))); replace HO338 := Aside0.mk (Kd.R_elder' (sR HO338.out) (Kd.R_base ho0) hb); replace HO342 := Aside0.mk (Kd.R_elder' (sR HO342.out) (Kd.R_base ho0) hb); replace BK309 := kB BK309 hb; replace BK310 := kB BK310 hb; replace HB := Aside0.mk (below_step (by repeat (first | exact sH HB.out | refine sN (w := w) ?_ | with_reducible refine sG (w := w) ?_ (by assumption))) hb); (try clear hb); (try clear hb2); (try clear hk); (try clear hi); (try clear ho0)))
                                                                                  replace HO_8 := Aside0.mk (Kd.R_drew HO_8.out); replace HO332 := Aside0.mk (Kd.R_drew HO332.out); replace HO335 := Aside0.mk (Kd.R_drew HO335.out); replace HO338 := Aside0.mk (Kd.R_drew HO338.out); replace HO342 := Aside0.mk (Kd.R_drew HO342.out); replace HO346 := Aside0.mk (Kd.R_drew HO346.out); replace HO350 := Aside0.mk (Kd.R_drew HO350.out); replace HO354 := Aside0.mk (Kd.R_drew HO354.out); replace BK309 := Aside0.mk (blk_drew BK309.out); replace BK310 := Aside0.mk (blk_drew BK310.out); replace HB := Aside0.mk (below_drew1 HB.out)
                                                                                  have q103 : (1 : Int) ≤ ((x8_2.length : Int) : Int) := of_decide_eq_true (by first | (with_reducible assumption) | assumption)
                                                                                  obtain ⟨i0103, hi0103, _, hsz103, _⟩ := info_parts info27
                                                                                  have hroom103 : x8_2.length ≤ co84 := (Kd.R_reads' HO_8.out).2.1
                                                                                  have hC103 : Kd.C k27 _ Ao84 x8_2.length x8_2 := (Kd.R_reads' HO_8.out).2.2
                                                                                  have hcut103 := cut_to (P := Try.prog) 28 27 .i64 Try.underlying28 hi0103 Ao84 x8_2.length co84 1 (by omega) q103 hroom103
                                                                                  have hr103 := Kd.C_take (m := 1) hC103 (by omega)
                                                                                  have hy103 : y356.length = (1 : Int).toNat := (by rw [Ny356.out, List.length_take]; omega)
                                                                                  rw [← Ny356.out] at hr103
                                                                                  rw [← hy103] at hcut103
                                                                                  have HR359 := Aside0.mk hr103
                                                                                  have HC359 := Aside0.mk (show y356.length ≤ co84 from by omega)
                                                                                  clear hr103 hC103 hroom103 hi0103 hsz103
                                                                                  have KY103 := Aside0.mk hy103
                                                                                  clear hy103
                                                                                  have KL103 := Aside0.mk (show 1 ≤ x8_2.length from by omega)
                                                                                  replace q103 := eq_true q103
                                                                                  refine start_ (n := 10) (S := fun w' => w'.cell? ⟨gb309, 0, none⟩ = some (.int .i64 t305) ∧ w'.cell? ⟨gb309, 1, none⟩ = some (.int .i64 t306) ∧ w'.cell? ⟨gb309, 2, none⟩ = some (.int .i64 t307) ∧ w'.cell? ⟨gb309, 3, none⟩ = some (.int .i64 t308)) (ds := []) #[O, O, O, O, O, O, O, O, O, O] (by kernel_rfl) rfl rfl ⟨(blk_cell BK309.out 0).trans rfl, (blk_cell BK309.out 1).trans rfl, (blk_cell BK309.out 2).trans rfl, (blk_cell BK309.out 3).trans rfl⟩ (fun hHeld => ?_); refine with_tabW twoslotlaw15_DescNames.tab25 twoslotlaw15_DescNames.bits25 (fun HT_ HW_ => ?_)
                                                                                  generalize w101.drew = w102 at HO_8 HO332 HO335 HO338 HO342 HO346 HO350 HO354 BK309 BK310 HB HR359 hHeld ⊢
                                                                                  refine pu (i := 1) (N := some 124) (v := ?_) (a' := ?_) #[O, X, O, O, O, O, O, O, O, O] rfl rfl HT_ (by kernel_rfl) (fun _ _ _ h => h) ⟨by rfl, ?_⟩ ?_ ?_
                                                                                  rotate_left
                                                                                  · intro w'; go_simp; with_reducible rfl
                                                                                  rotate_left
                                                                                  · simp only [sP]
                                                                                    rfl
                                                                                  refine pu (i := 2) (N := some 125) (v := ?_) (a' := ?_) #[O, X, X, O, O, O, O, O, O, O] rfl rfl HT_ (by kernel_rfl) (fun _ _ _ h => h) ⟨by rfl, ?_⟩ ?_ ?_
                                                                                  rotate_left
                                                                                  · intro w'; go_simp; with_reducible rfl
                                                                                  rotate_left
                                                                                  · simp only [sP]
                                                                                    rfl
                                                                                  refine pu (i := 3) (N := some 126) (v := ?_) (a' := ?_) #[O, X, X, X, O, O, O, O, O, O] rfl rfl HT_ (by kernel_rfl) (fun _ _ _ h => h) ⟨by rfl, ?_⟩ ?_ ?_
                                                                                  rotate_left
                                                                                  · intro w'; go_simp; with_reducible rfl
                                                                                  rotate_left
                                                                                  · simp only [sP]
                                                                                    rfl
                                                                                  refine tu (i := 0) (N := some 123) (v := ?_) (a' := ?_) #[X, X, X, X, O, O, O, O, O, O] rfl rfl HT_ HW_ (by kernel_rfl) (fun _ _ _ h => h) ⟨by rfl, ?_⟩ hHeld ?_ ?_
                                                                                  rotate_left
                                                                                  · rintro w' ⟨s0, s1, s2, s3⟩; go_simp; with_reducible rfl
                                                                                  rotate_left
                                                                                  · simp only [sP]
                                                                                    rfl
                                                                                  refine one_ (i := 4) (N := some 127) #[X, X, X, X, X, O, O, O, O, O] rfl rfl (one_of HT_.out (by kernel_rfl)) (by decide) (fun K hK => ?_)
                                                                                  refine goes_ Try.func14 (by kernel_rfl) rfl #[.agg #[.int .i64 t305, .int .i64 t306, .int .i64 t307, .int .i64 t308], .agg #[.int .i64 577, .int .i64 1, .slice Ao84 y356.length co84]] (by rfl) rfl rfl (by (try simp only [sM]); first | done | rfl | (simp only [sT]; rfl)) ?_
                                                                                  with_reducible refine (desc_Bytes.calls k2 t305 t306 t307 t308 577 1 _ _ y356 t360 t363 _ ?side1 ?side2 A45.out).mono ?_
                                                                                  (case side1 => repeat (first | exact (by repeat (first | (with_reducible exact HR359.out) | (with_reducible refine Kd.C_alloc ?_ _) | (with_reducible refine Kd.C_drewN ?_ _) | (with_reducible refine Kd.C_drew ?_) | exact HR359.out)) | (with_reducible refine Kd.C_alloc ?_ _) | (with_reducible refine Kd.C_drewN ?_ _) | (with_reducible refine Kd.C_drew ?_)))
                                                                                  (case side2 => exact HC359.out)
                                                                                  rintro e w104 ⟨v361, rfl, ho0, hb⟩
                                                                                  refine ⟨_, rfl, ?_⟩
                                                                                  replace HO_8 := Aside0.mk (Kd.R_below (sR HO_8.out) hb); replace HO332 := Aside0.mk (Kd.R_below (sR HO332.out) hb); replace HO335 := Aside0.mk (Kd.R_below (sR HO335.out) hb); replace HO346 := Aside0.mk (Kd.R_below (sR HO346.out) hb); replace HO350 := Aside0.mk (Kd.R_below (sR HO350.out) hb); have HO362 := Aside0.mk (Kd.R_lower (Kd.R_new' (Kd.R_new' (Kd.R_new' ho0 (Kd.R_lt (sR HO338.out))) (Kd.R_lt (sR HO342.out))) (Kd.R_lt (sR HO354.out))) (below_size (by repeat (first | exact sH HB.out | refine sN (w := w) ?_ | with_reducible refine sG (w := w) ?_ (by assumption))))); replace HO338 := Aside0.mk (Kd.R_elder' (sR HO338.out) (Kd.R_base ho0) hb); replace HO342 := Aside0.mk (Kd.R_elder' (sR HO342.out) (Kd.R_base ho0) hb); replace HO354 := Aside0.mk (Kd.R_elder' (sR HO354.out) (Kd.R_base ho0) hb); replace BK309 := kB BK309 hb; replace BK310 := kB BK310 hb; replace HR359 := Aside0.mk (Kd.C_below (by repeat (first | (with_reducible exact HR359.out) | (with_reducible refine Kd.C_alloc ?_ _) | (with_reducible refine Kd.C_drewN ?_ _) | (with_reducible refine Kd.C_drew ?_) | exact HR359.out)) hb); replace HB := Aside0.mk (below_step (by repeat (first | exact sH HB.out | refine sN (w := w) ?_ | with_reducible refine sG (w := w) ?_ (by assumption))) hb)
                                                                                  (try clear hb)
                                                                                  (try clear hb2)
                                                                                  (try clear hk)
                                                                                  (try clear hi)
                                                                                  (try clear ho0)
                                                                                  refine hK.out _ _ ⟨(blk_cell BK309.out 0).trans rfl, (blk_cell BK309.out 1).trans rfl, (blk_cell BK309.out 2).trans rfl, (blk_cell BK309.out 3).trans rfl⟩ (fun hHeld => ?_)
                                                                                  clear hK K
                                                                                  refine norm_ (a' := ?_) ?_ ?_
                                                                                  rotate_left
                                                                                  · show Act.put _ (some 127) _ = _
                                                                                    simp only [sP]
                                                                                    rfl
                                                                                  refine pu (i := 5) (N := some 122) (v := ?_) (a' := ?_) #[X, X, X, X, X, X, O, O, O, O] rfl rfl HT_ (by kernel_rfl) (fun _ _ _ h => h) ⟨by rfl, ?_⟩ ?_ ?_
                                                                                  rotate_left
                                                                                  · intro w'; go_simp; with_reducible rfl
                                                                                  rotate_left
                                                                                  · simp only [sP]
                                                                                    rfl
                                                                                  refine pu (i := 6) (N := some 128) (v := ?_) (a' := ?_) #[X, X, X, X, X, X, X, O, O, O] rfl rfl HT_ (by kernel_rfl) (fun _ _ _ h => h) ⟨by rfl, ?_⟩ ?_ ?_
                                                                                  rotate_left
                                                                                  · intro w'; go_simp; with_reducible rfl
                                                                                  rotate_left
                                                                                  · simp only [sP]
                                                                                    rfl
                                                                                  refine pu (i := 7) (N := some 129) (v := ?_) (a' := ?_) #[X, X, X, X, X, X, X, X, O, O] rfl rfl HT_ (by kernel_rfl) (fun _ _ _ h => h) ⟨by rfl, ?_⟩ ?_ ?_
                                                                                  rotate_left
                                                                                  · intro w'; go_simp; with_reducible rfl
                                                                                  rotate_left
                                                                                  · simp only [sP]
                                                                                    rfl
                                                                                  refine pu (i := 8) (N := some 22) (v := ?_) (a' := ?_) #[X, X, X, X, X, X, X, X, X, O] rfl rfl HT_ (by kernel_rfl) (fun _ _ _ h => h) ⟨by rfl, ?_⟩ ?_ ?_
                                                                                  rotate_left
                                                                                  · intro w'; go_simp; with_reducible rfl
                                                                                  rotate_left
                                                                                  · simp only [sP]
                                                                                    rfl
                                                                                  refine pu (i := 9) (N := some 23) (v := ?_) (a' := ?_) #[X, X, X, X, X, X, X, X, X, X] rfl rfl HT_ (by kernel_rfl) (fun _ _ _ h => h) ⟨by rfl, ?_⟩ ?_ ?_
                                                                                  rotate_left
                                                                                  · intro w'; go_simp; with_reducible rfl
                                                                                  rotate_left
                                                                                  · simp only [sP]
                                                                                    rfl
                                                                                  refine done_ (done_of HT_.out (by kernel_rfl)) ?_
                                                                                  obtain ⟨hcz105_0, hcz105_1, hcz105_2, hcz105_3, hfz105_0, hfz105_1, hfz105_2, hfz105_3⟩ := cs4 BK309.out
                                                                                  go_upto_region 30 with (first | ((with_reducible refine gate_callee (f := 14) rfl ?_); refine goesL_ (some 134) rfl rfl Try.func14 (by kernel_rfl) rfl #[.agg #[.int .i64 t305, .int .i64 t306, .int .i64 t307, .int .i64 t308], .agg #[.int .i64 5760, .int .i64 1, .slice Ao84 x8_2.length co84]] rfl (by (try simp only [sM]); first | done | rfl | (simp only [sT]; rfl)) ?_; (with_reducible refine (desc_Bytes.calls k2 t305 t306 t307 t308 5760 1 _ _ x8_2 t364 t367 _ ?side1 ?side2 A46.out).mono ?_); (case side1 => exact sC (Kd.R_reads' HO_8.out).2.2); (case side2 => exact (Kd.R_reads' HO_8.out).2.1); rintro e w106 ⟨v365, rfl, ho0, hb⟩; refine ⟨_, rfl, ?_⟩; replace HO_8 := Aside0.mk (Kd.R_below (sR HO_8.out) hb); replace HO332 := Aside0.mk (Kd.R_below (sR HO332.out) hb); replace HO335 := Aside0.mk (Kd.R_below (sR HO335.out) hb); replace HO346 := Aside0.mk (Kd.R_below (sR HO346.out) hb); replace HO350 := Aside0.mk (Kd.R_below (sR HO350.out) hb); have HO366 := Aside0.mk (Kd.R_lower (Kd.R_new' (Kd.R_new' (Kd.R_new' (Kd.R_new' ho0 (Kd.R_lt (sR HO338.out))) (Kd.R_lt (sR HO342.out))) (Kd.R_lt (sR HO354.out))) (Kd.R_lt (sR HO362.out))) (below_size (by repeat (first | exact sH HB.out | refine sN (w := w) ?_ | with_reducible refine sG (w := w) ?_ (by assumption))))); replace HO338 := Aside0.mk (Kd.R_elder' (sR HO338.out) (Kd.R_base ho0) hb); replace HO342 := Aside0.mk (Kd.R_elder' (sR HO342.out) (Kd.R_base ho0) hb); replace HO354 := Aside0.mk (Kd.R_elder' (sR HO354.out) (Kd.R_base ho0) hb); replace HO362 := Aside0.mk (Kd.R_elder' (sR HO362.out) (Kd.R_base ho0) hb); replace BK309 := kB BK309 hb; replace BK310 := kB BK310 hb; replace HR359 := Aside0.mk (Kd.C_below (by repeat (first | (with_reducible exact HR359.out) | (with_reducible refine Kd.C_alloc ?_ _) | (with_reducible refine Kd.C_drewN ?_ _) | (with_reducible refine Kd.C_drew ?_) | exact HR359.out)) hb); replace HB := Aside0.mk (below_step (by repeat (first | exact sH HB.out | refine sN (w := w) ?_ | with_reducible refine sG (w := w) ?_ (by assumption))) hb); (try clear hb); (try clear hb2); (try clear hk); (try clear hi); (try clear ho0); obtain ⟨hcz107_0, hcz107_1, hcz107_2, hcz107_3, hfz107_0, hfz107_1, hfz107_2, hfz107_3⟩ := cs4 BK309.out) | ((with_reducible refine gate_callee (f := 14) rfl ?_); refine goesL_ (some 141) rfl rfl Try.func14 (by kernel_rfl) rfl #[.agg #[.int .i64 t305, .int .i64 t306, .int .i64 t307, .int .i64 t308], .agg #[.int .i64 5761, .int .i64 1, .slice Ao87 t330.length co87]] rfl (by (try simp only [sM]); first | done | rfl | (simp only [sT]; rfl)) ?_; (with_reducible refine (desc_Bytes.calls k2 t305 t306 t307 t308 5761 1 _ _ t330 t368 t371 _ ?side1 ?side2 A47.out).mono ?_); (case side1 => exact sC (Kd.R_reads' HO332.out).2.2); (case side2 => exact (Kd.R_reads' HO332.out).2.1); rintro e w108 ⟨v369, rfl, ho0, hb⟩; refine ⟨_, rfl, ?_⟩; replace HO_8 := Aside0.mk (Kd.R_below (sR HO_8.out) hb); replace HO332 := Aside0.mk (Kd.R_below (sR HO332.out) hb); replace HO335 := Aside0.mk (Kd.R_below (sR HO335.out) hb); replace HO346 := Aside0.mk (Kd.R_below (sR HO346.out) hb); replace HO350 := Aside0.mk (Kd.R_below (sR HO350.out) hb); have HO370 := Aside0.mk (Kd.R_lower (Kd.R_new' (Kd.R_new' (Kd.R_new' (Kd.R_new' (Kd.R_new' ho0 (Kd.R_lt (sR HO338.out))) (Kd.R_lt (sR HO342.out))) (Kd.R_lt (sR HO354.out))) (Kd.R_lt (sR HO362.out))) (Kd.R_lt (sR HO366.out))) (below_size (by repeat (first | exact sH HB.out | refine sN (w := w) ?_ | with_reducible refine sG (w := w) ?_ (by assumption))))); replace HO338 := Aside0.mk (Kd.R_elder' (sR HO338.out) (Kd.R_base ho0) hb); replace HO342 := Aside0.mk (Kd.R_elder' (sR HO342.out) (Kd.R_base ho0) hb); replace HO354 := Aside0.mk (Kd.R_elder' (sR HO354.out) (Kd.R_base ho0) hb); replace HO362 := Aside0.mk (Kd.R_elder' (sR HO362.out) (Kd.R_base ho0) hb); replace HO366 := Aside0.mk (Kd.R_elder' (sR HO366.out) (Kd.R_base ho0) hb); replace BK309 := kB BK309 hb; replace BK310 := kB BK310 hb; replace HR359 := Aside0.mk (Kd.C_below (by repeat (first | (with_reducible exact HR359.out) | (with_reducible refine Kd.C_alloc ?_ _) | (with_reducible refine Kd.C_drewN ?_ _) | (with_reducible refine Kd.C_drew ?_) | exact HR359.out)) hb); replace HB := Aside0.mk (below_step (by repeat (first | exact sH HB.out | refine sN (w := w) ?_ | with_reducible refine sG (w := w) ?_ (by assumption))) hb); (try clear hb); (try clear hb2); (try clear hk); (try clear hi); (try clear ho0); obtain ⟨hcz109_0, hcz109_1, hcz109_2, hcz109_3, hfz109_0, hfz109_1, hfz109_2, hfz109_3⟩ := cs4 BK309.out) | ((with_reducible refine gate_callee (f := 14) rfl ?_); refine goesL_ (some 148) rfl rfl Try.func14 (by kernel_rfl) rfl #[.agg #[.int .i64 t305, .int .i64 t306, .int .i64 t307, .int .i64 t308], .agg #[.int .i64 577, .int .i64 0, .slice Ao87 t330.length co87]] rfl (by (try simp only [sM]); first | done | rfl | (simp only [sT]; rfl)) ?_; (with_reducible refine (desc_Bytes.calls k2 t305 t306 t307 t308 577 0 _ _ t330 t372 t375 _ ?side1 ?side2 A48.out).mono ?_); (case side1 => exact sC (Kd.R_reads' HO332.out).2.2); (case side2 => exact (Kd.R_reads' HO332.out).2.1); rintro e w110 ⟨v373, rfl, ho0, hb⟩; refine ⟨_, rfl, ?_⟩; replace HO_8 := Aside0.mk (Kd.R_below (sR HO_8.out) hb); replace HO332 := Aside0.mk (Kd.R_below (sR HO332.out) hb); replace HO335 := Aside0.mk (Kd.R_below (sR HO335.out) hb); replace HO346 := Aside0.mk (Kd.R_below (sR HO346.out) hb); replace HO350 := Aside0.mk (Kd.R_below (sR HO350.out) hb); have HO374 := Aside0.mk (Kd.R_lower (Kd.R_new' (Kd.R_new' (Kd.R_new' (Kd.R_new' (Kd.R_new' (Kd.R_new' ho0 (Kd.R_lt (sR HO338.out))) (Kd.R_lt (sR HO342.out))) (Kd.R_lt (sR HO354.out))) (Kd.R_lt (sR HO362.out))) (Kd.R_lt (sR HO366.out))) (Kd.R_lt (sR HO370.out))) (below_size (by repeat (first | exact sH HB.out | refine sN (w := w) ?_ | with_reducible refine sG (w := w) ?_ (by assumption))))); replace HO338 := Aside0.mk (Kd.R_elder' (sR HO338.out) (Kd.R_base ho0) hb); replace HO342 := Aside0.mk (Kd.R_elder' (sR HO342.out) (Kd.R_base ho0) hb); replace HO354 := Aside0.mk (Kd.R_elder' (sR HO354.out) (Kd.R_base ho0) hb); replace HO362 := Aside0.mk (Kd.R_elder' (sR HO362.out) (Kd.R_base ho0) hb); replace HO366 := Aside0.mk (Kd.R_elder' (sR HO366.out) (Kd.R_base ho0) hb); replace HO370 := Aside0.mk (Kd.R_elder' (sR HO370.out) (Kd.R_base ho0) hb); replace BK309 := kB BK309 hb; replace BK310 := kB BK310 hb; replace HR359 := Aside0.mk (Kd.C_below (by repeat (first | (with_reducible exact HR359.out) | (with_reducible refine Kd.C_alloc ?_ _) | (with_reducible refine Kd.C_drewN ?_ _) | (with_reducible refine Kd.C_drew ?_) | exact HR359.out)) hb); replace HB := Aside0.mk (below_step (by repeat (first | exact sH HB.out | refine sN (w := w) ?_ | with_reducible refine sG (w := w) ?_ (by assumption))) hb); (try clear hb); (try clear hb2); (try clear hk); (try clear hi); (try clear ho0)) | ((with_reducible refine gate_callee (f := 15) rfl ?_); refine goesL_ (some 153) rfl rfl Try.func15 (by kernel_rfl) rfl #[.agg #[.int .i64 0, .int .i64 0, .int .i64 0, .int .i64 0], .slice none 0 0] rfl (by (try simp only [sM]); first | done | rfl | (simp only [sT]; rfl)) ?_; (refine (desc_Parse.calls k2 0 0 0 0 _ _ ([] : List Int) t376 t377 t378 t381 _ ?side1 ?side2 A49.out).mono ?_); (case side1 => exact Kd.C_nil _ _); (case side2 => exact Nat.le_refl _); rintro e w111 ⟨v379, rfl, ho0, hb⟩; refine ⟨_, rfl, ?_⟩; replace HO338 := Aside0.mk (Kd.R_below (sR HO338.out) hb); replace HO342 := Aside0.mk (Kd.R_below (sR HO342.out) hb); replace HO354 := Aside0.mk (Kd.R_below (sR HO354.out) hb); replace HO362 := Aside0.mk (Kd.R_below (sR HO362.out) hb); replace HO366 := Aside0.mk (Kd.R_below (sR HO366.out) hb); replace HO370 := Aside0.mk (Kd.R_below (sR HO370.out) hb); replace HO374 := Aside0.mk (Kd.R_below (sR HO374.out) hb); have HO380 := Aside0.mk (Kd.R_lower (Kd.R_newB (Kd.R_new' (Kd.R_new' (Kd.R_new' (Kd.R_new' (Kd.R_new' ho0 (Kd.R_lt (sR HO_8.out))) (Kd.R_lt (sR HO332.out))) (Kd.R_lt (sR HO335.out))) (Kd.R_lt (sR HO346.out))) (Kd.R_lt (sR HO350.out))) (g := gb310) (o := .cells #[.int .i64 31, .int .i64 1073741824] 27 (0, 0)) (by first | exact BK310.out | (refine sO ?_; exact BK310.out))) (below_size (by repeat (first | exact sH HB.out | refine sN (w := w) ?_ | with_reducible refine sG (w := w) ?_ (by assumption))))); replace HO_8 := Aside0.mk (Kd.R_elder' (sR HO_8.out) (Kd.R_base ho0) hb); replace HO332 := Aside0.mk (Kd.R_elder' (sR HO332.out) (Kd.R_base ho0) hb); replace HO335 := Aside0.mk (Kd.R_elder' (sR HO335.out) (Kd.R_base ho0) hb); replace HO346 := Aside0.mk (Kd.R_elder' (sR HO346.out) (Kd.R_base ho0) hb); replace HO350 := Aside0.mk (Kd.R_elder' (sR HO350.out) (Kd.R_base ho0) hb); replace BK309 := kB BK309 hb; replace BK310 := kB BK310 hb; replace HR359 := Aside0.mk (Kd.C_below (by repeat (first | (with_reducible exact HR359.out) | (with_reducible refine Kd.C_alloc ?_ _) | (with_reducible refine Kd.C_drewN ?_ _) | (with_reducible refine Kd.C_drew ?_) | exact HR359.out)) hb); replace HB := Aside0.mk (below_step (by repeat (first | exact sH HB.out | refine sN (w := w) ?_ | with_reducible refine sG (w := w) ?_ (by assumption))) hb); (try clear hb); (try clear hb2); (try clear hk); (try clear hi); (try clear ho0); obtain ⟨hcz112_0, hcz112_1, hcz112_2, hcz112_3, hfz112_0, hfz112_1, hfz112_2, hfz112_3⟩ := cs4 BK309.out; obtain ⟨AoX_, coX_, eoX_⟩ := Kd.R_slice HO380.out; subst eoX_))
                                                                                  (try simp only [Act.put, List.setIfInBounds_toArray, List.set_cons_zero, List.set_cons_succ])
                                                                                  have hbX : Below w111.heap.size w111 (w111.alloc (.cells #[.int .i64 t376, .int .i64 t377, .slice AoX_ t378.length coX_] 35)) := below_alloc (Below.refl _ _) _
                                                                                  have n_ := Aside0.mk (Kd.R_below HO_8.out hbX)
                                                                                  clear HO_8
                                                                                  have HO_8 := n_
                                                                                  clear n_
                                                                                  have n_ := Aside0.mk (Kd.R_below HO332.out hbX)
                                                                                  clear HO332
                                                                                  have HO332 := n_
                                                                                  clear n_
                                                                                  have n_ := Aside0.mk (Kd.R_below HO335.out hbX)
                                                                                  clear HO335
                                                                                  have HO335 := n_
                                                                                  clear n_
                                                                                  have n_ := Aside0.mk (Kd.R_below HO338.out hbX)
                                                                                  clear HO338
                                                                                  have HO338 := n_
                                                                                  clear n_
                                                                                  have n_ := Aside0.mk (Kd.R_below HO342.out hbX)
                                                                                  clear HO342
                                                                                  have HO342 := n_
                                                                                  clear n_
                                                                                  have n_ := Aside0.mk (Kd.R_below HO346.out hbX)
                                                                                  clear HO346
                                                                                  have HO346 := n_
                                                                                  clear n_
                                                                                  have n_ := Aside0.mk (Kd.R_below HO350.out hbX)
                                                                                  clear HO350
                                                                                  have HO350 := n_
                                                                                  clear n_
                                                                                  have n_ := Aside0.mk (Kd.R_below HO354.out hbX)
                                                                                  clear HO354
                                                                                  have HO354 := n_
                                                                                  clear n_
                                                                                  have n_ := Aside0.mk (Kd.R_below HO362.out hbX)
                                                                                  clear HO362
                                                                                  have HO362 := n_
                                                                                  clear n_
                                                                                  have n_ := Aside0.mk (Kd.R_below HO366.out hbX)
                                                                                  clear HO366
                                                                                  have HO366 := n_
                                                                                  clear n_
                                                                                  have n_ := Aside0.mk (Kd.R_below HO370.out hbX)
                                                                                  clear HO370
                                                                                  have HO370 := n_
                                                                                  clear n_
                                                                                  have n_ := Aside0.mk (Kd.R_below HO374.out hbX)
                                                                                  clear HO374
                                                                                  have HO374 := n_
                                                                                  clear n_
                                                                                  have n_ := Aside0.mk (Kd.R_below HO380.out hbX)
                                                                                  clear HO380
                                                                                  have HO380 := n_
                                                                                  clear n_
                                                                                  have n_ := Aside0.mk (blk_below BK309.out hbX)
                                                                                  clear BK309
                                                                                  have BK309 := n_
                                                                                  clear n_
                                                                                  have n_ := Aside0.mk (blk_below BK310.out hbX)
                                                                                  clear BK310
                                                                                  have BK310 := n_
                                                                                  clear n_
                                                                                  have n_ := Aside0.mk (Kd.C_below HR359.out hbX)
                                                                                  clear HR359
                                                                                  have HR359 := n_
                                                                                  clear n_
                                                                                  have n_ := Aside0.mk (below_step HB.out hbX)
                                                                                  clear HB
                                                                                  have HB := n_
                                                                                  clear n_
                                                                                  clear hcz112_0 hcz112_1 hcz112_2 hcz112_3
                                                                                  generalize (w111.alloc (.cells #[.int .i64 t376, .int .i64 t377, .slice AoX_ t378.length coX_] 35)) = wX_ at hbX HO_8 HO332 HO335 HO338 HO342 HO346 HO350 HO354 HO362 HO366 HO370 HO374 HO380 BK309 BK310 HR359 HB ⊢
                                                                                  clear hbX; obtain ⟨hcz112_0, hcz112_1, hcz112_2, hcz112_3, -, -, -, -⟩ := cs4 BK309.out
                                                                                  try go_wp2_with (first | ((with_reducible refine gate_callee (f := 13) rfl ?_); refine goesL_ (some 158) rfl rfl Try.func13 (by kernel_rfl) rfl #[.agg #[.int .i64 t305, .int .i64 t306, .int .i64 t307, .int .i64 t308], .slice none 0 0, .int .i64 0] rfl (by (try simp only [sM]); first | done | rfl | (simp only [sT]; rfl)) ?_; (refine (desc_Refs.calls k2 t305 t306 t307 t308 _ _ ([] : List Int) 0 t382 t385 _ ?side1 ?side2 A50.out).mono ?_); (case side1 => exact Kd.C_nil _ _); (case side2 => exact Nat.le_refl _); rintro e w113 ⟨v383, rfl, ho0, hb⟩; refine ⟨_, rfl, ?_⟩; replace HO338 := Aside0.mk (Kd.R_below (sR HO338.out) hb); replace HO342 := Aside0.mk (Kd.R_below (sR HO342.out) hb); replace HO354 := Aside0.mk (Kd.R_below (sR HO354.out) hb); replace HO362 := Aside0.mk (Kd.R_below (sR HO362.out) hb); replace HO366 := Aside0.mk (Kd.R_below (sR HO366.out) hb); replace HO370 := Aside0.mk (Kd.R_below (sR HO370.out) hb); replace HO374 := Aside0.mk (Kd.R_below (sR HO374.out) hb); have HO384 := Aside0.mk (Kd.R_lower (Kd.R_newB (Kd.R_new' (Kd.R_new' (Kd.R_new' (Kd.R_new' (Kd.R_new' (Kd.R_new' ho0 (Kd.R_lt (sR HO_8.out))) (Kd.R_lt (sR HO332.out))) (Kd.R_lt (sR HO335.out))) (Kd.R_lt (sR HO346.out))) (Kd.R_lt (sR HO350.out))) (Kd.R_lt (sR HO380.out))) (g := gb310) (o := .cells #[.int .i64 31, .int .i64 1073741824] 27 (0, 0)) (by first | exact BK310.out | (refine sO ?_; exact BK310.out))) (below_size (by repeat (first | exact sH HB.out | refine sN (w := w) ?_ | with_reducible refine sG (w := w) ?_ (by assumption))))); replace HO_8 := Aside0.mk (Kd.R_elder' (sR HO_8.out) (Kd.R_base ho0) hb); replace HO332 := Aside0.mk (Kd.R_elder' (sR HO332.out) (Kd.R_base ho0) hb); replace HO335 := Aside0.mk (Kd.R_elder' (sR HO335.out) (Kd.R_base ho0) hb); replace HO346 := Aside0.mk (Kd.R_elder' (sR HO346.out) (Kd.R_base ho0) hb); replace HO350 := Aside0.mk (Kd.R_elder' (sR HO350.out) (Kd.R_base ho0) hb); replace HO380 := Aside0.mk (Kd.R_elder' (sR HO380.out) (Kd.R_base ho0) hb); replace BK309 := kB BK309 hb; replace BK310 := kB BK310 hb; replace HR359 := Aside0.mk (Kd.C_below (by repeat (first | (with_reducible exact HR359.out) | (with_reducible refine Kd.C_alloc ?_ _) | (with_reducible refine Kd.C_drewN ?_ _) | (with_reducible refine Kd.C_drew ?_) | exact HR359.out)) hb); replace HB := Aside0.mk (below_step (by repeat (first | exact sH HB.out | refine sN (w := w) ?_ | with_reducible refine sG (w := w) ?_ (by assumption))) hb); (try clear hb); (try clear hb2); (try clear hk); (try clear hi); (try clear ho0); obtain ⟨Ao114, co114, eo114⟩ := Kd.R_slice HO354.out; subst eo114; obtain ⟨Ao115, co115, eo115⟩ := Kd.R_slice HO362.out; subst eo115; obtain ⟨Ao116, co116, eo116⟩ := Kd.R_slice HO366.out; subst eo116; obtain ⟨Ao117, co117, eo117⟩ := Kd.R_slice HO346.out; subst eo117))
                                                                                  skip
                                                                                  skip
                                                                                  skip
                                                                                  skip
                                                                                  skip
                                                                                  have n5_ := Aside0.mk (Kd.R_drew HO346.out)
                                                                                  skip
                                                                                  have n7_ := Aside0.mk (Kd.R_drew HO354.out); have n8_ := Aside0.mk (Kd.R_drew HO362.out); have n9_ := Aside0.mk (Kd.R_drew HO366.out)
                                                                                  skip
                                                                                  skip
                                                                                  skip
                                                                                  skip
                                                                                  skip
                                                                                  have n15_ := Aside0.mk (blk_drew BK310.out)
                                                                                  skip
                                                                                  have n17_ := Aside0.mk (below_drew1 HB.out); clear HO_8; clear HO332; clear HO335; clear HO338; clear HO342; clear HO346; clear HO350; clear HO354; clear HO362; clear HO366; clear HO370; clear HO374; clear HO380; clear HO384; clear BK309; clear BK310; clear HR359; clear HB
                                                                                  skip
                                                                                  skip
                                                                                  skip
                                                                                  skip
                                                                                  skip
                                                                                  have HO346 := n5_
                                                                                  skip
                                                                                  have HO354 := n7_; have HO362 := n8_; have HO366 := n9_
                                                                                  skip
                                                                                  skip
                                                                                  skip
                                                                                  skip
                                                                                  skip
                                                                                  have BK310 := n15_
                                                                                  skip
                                                                                  have HB := n17_; clear n5_ n7_ n8_ n9_ n15_ n17_
                                                                                  have p386 : 0 ≤ (9 : Int) := (by decide)
                                                                                  have q386 : 9 < (t344.length : Int) := of_decide_eq_true (by first | (with_reducible assumption) | assumption)
                                                                                  obtain ⟨ad386, e386, hx386_0, hx386_1⟩ := at_T27 (Kd.R_reads' HO346.out).2.2 9 p386 q386
                                                                                  cases e386
                                                                                  (try simp only [show (9 : Int).toNat = 9 from rfl, Nat.reduceMul, Nat.reduceEqDiff, Go.Addr.add, ↓reduceIte] at hx386_0)
                                                                                  (try simp only [show (9 : Int).toNat = 9 from rfl, Nat.reduceMul, Nat.reduceEqDiff, Go.Addr.add, ↓reduceIte] at hx386_1)
                                                                                  have qi386 : (9 < t344.length) = True := eq_true (Int.ofNat_lt.mp q386)
                                                                                  (try rw [show ((9 : Int)).toNat = 9 from rfl] at hx386_0)
                                                                                  (try rw [show 9 * 2 = 18 from rfl] at hx386_0)
                                                                                  (try rw [show ((9 : Int)).toNat = 9 from rfl] at hx386_1)
                                                                                  (try rw [show 9 * 2 = 18 from rfl] at hx386_1)
                                                                                  replace p386 := eq_true p386
                                                                                  replace q386 := eq_true q386
                                                                                  have p387 : 0 ≤ (2 : Int) := (by decide)
                                                                                  have q387 : 2 < (t352.length : Int) := of_decide_eq_true (by first | (with_reducible assumption) | assumption)
                                                                                  obtain ⟨ad387, e387, hx387_0⟩ := Kd.at_int (Kd.R_reads' HO354.out).2.2 2 p387 q387
                                                                                  cases e387
                                                                                  (try simp only [show (2 : Int).toNat = 2 from rfl, Nat.reduceMul, Nat.reduceEqDiff, Go.Addr.add, ↓reduceIte] at hx387_0)
                                                                                  have qi387 : (2 < t352.length) = True := eq_true (Int.ofNat_lt.mp q387)
                                                                                  (try rw [show ((2 : Int)).toNat = 2 from rfl] at hx387_0)
                                                                                  replace p387 := eq_true p387
                                                                                  replace q387 := eq_true q387
                                                                                  have p388 : 0 ≤ (3 : Int) := (by decide)
                                                                                  have q388 : 3 < (t352.length : Int) := of_decide_eq_true (by first | (with_reducible assumption) | assumption)
                                                                                  obtain ⟨ad388, e388, hx388_0⟩ := Kd.at_int (Kd.R_reads' HO354.out).2.2 3 p388 q388
                                                                                  obtain rfl : ad387 = ad388 := (by injection e388)
                                                                                  (try simp only [show (3 : Int).toNat = 3 from rfl, Nat.reduceMul, Nat.reduceEqDiff, Go.Addr.add, ↓reduceIte] at hx388_0)
                                                                                  have qi388 : (3 < t352.length) = True := eq_true (Int.ofNat_lt.mp q388)
                                                                                  (try rw [show ((3 : Int)).toNat = 3 from rfl] at hx388_0)
                                                                                  replace p388 := eq_true p388
                                                                                  replace q388 := eq_true q388
                                                                                  have p389 : 0 ≤ (6 : Int) := (by decide)
                                                                                  have q389 : 6 < (t352.length : Int) := of_decide_eq_true (by first | (with_reducible assumption) | assumption)
                                                                                  obtain ⟨ad389, e389, hx389_0⟩ := Kd.at_int (Kd.R_reads' HO354.out).2.2 6 p389 q389
                                                                                  obtain rfl : ad387 = ad389 := (by injection e389)
                                                                                  (try simp only [show (6 : Int).toNat = 6 from rfl, Nat.reduceMul, Nat.reduceEqDiff, Go.Addr.add, ↓reduceIte] at hx389_0)
                                                                                  have qi389 : (6 < t352.length) = True := eq_true (Int.ofNat_lt.mp q389)
                                                                                  (try rw [show ((6 : Int)).toNat = 6 from rfl] at hx389_0)
                                                                                  replace p389 := eq_true p389
                                                                                  replace q389 := eq_true q389
                                                                                  have p390 : 0 ≤ (4 : Int) := (by decide)
                                                                                  have q390 : 4 < (t360.length : Int) := of_decide_eq_true (by first | (with_reducible assumption) | assumption)
                                                                                  obtain ⟨ad390, e390, hx390_0⟩ := Kd.at_int (Kd.R_reads' HO362.out).2.2 4 p390 q390
                                                                                  cases e390
                                                                                  (try simp only [show (4 : Int).toNat = 4 from rfl, Nat.reduceMul, Nat.reduceEqDiff, Go.Addr.add, ↓reduceIte] at hx390_0)
                                                                                  have qi390 : (4 < t360.length) = True := eq_true (Int.ofNat_lt.mp q390)
                                                                                  (try rw [show ((4 : Int)).toNat = 4 from rfl] at hx390_0)
                                                                                  replace p390 := eq_true p390
                                                                                  replace q390 := eq_true q390
                                                                                  have p391 : 0 ≤ (6 : Int) := (by decide)
                                                                                  have q391 : 6 < (t360.length : Int) := of_decide_eq_true (by first | (with_reducible assumption) | assumption)
                                                                                  obtain ⟨ad391, e391, hx391_0⟩ := Kd.at_int (Kd.R_reads' HO362.out).2.2 6 p391 q391
                                                                                  obtain rfl : ad390 = ad391 := (by injection e391)
                                                                                  (try simp only [show (6 : Int).toNat = 6 from rfl, Nat.reduceMul, Nat.reduceEqDiff, Go.Addr.add, ↓reduceIte] at hx391_0)
                                                                                  have qi391 : (6 < t360.length) = True := eq_true (Int.ofNat_lt.mp q391)
                                                                                  (try rw [show ((6 : Int)).toNat = 6 from rfl] at hx391_0)
                                                                                  replace p391 := eq_true p391
                                                                                  replace q391 := eq_true q391
                                                                                  have p392 : 0 ≤ (9 : Int) := (by decide)
                                                                                  have q392 : 9 < (t360.length : Int) := of_decide_eq_true (by first | (with_reducible assumption) | assumption)
                                                                                  obtain ⟨ad392, e392, hx392_0⟩ := Kd.at_int (Kd.R_reads' HO362.out).2.2 9 p392 q392
                                                                                  obtain rfl : ad390 = ad392 := (by injection e392)
                                                                                  (try simp only [show (9 : Int).toNat = 9 from rfl, Nat.reduceMul, Nat.reduceEqDiff, Go.Addr.add, ↓reduceIte] at hx392_0)
                                                                                  have qi392 : (9 < t360.length) = True := eq_true (Int.ofNat_lt.mp q392)
                                                                                  (try rw [show ((9 : Int)).toNat = 9 from rfl] at hx392_0)
                                                                                  replace p392 := eq_true p392
                                                                                  replace q392 := eq_true q392
                                                                                  have p393 : 0 ≤ (2 : Int) := (by decide)
                                                                                  have q393 : 2 < (t364.length : Int) := of_decide_eq_true (by first | (with_reducible assumption) | assumption)
                                                                                  obtain ⟨ad393, e393, hx393_0⟩ := Kd.at_int (Kd.R_reads' HO366.out).2.2 2 p393 q393
                                                                                  cases e393
                                                                                  (try simp only [show (2 : Int).toNat = 2 from rfl, Nat.reduceMul, Nat.reduceEqDiff, Go.Addr.add, ↓reduceIte] at hx393_0)
                                                                                  have qi393 : (2 < t364.length) = True := eq_true (Int.ofNat_lt.mp q393)
                                                                                  (try rw [show ((2 : Int)).toNat = 2 from rfl] at hx393_0)
                                                                                  replace p393 := eq_true p393
                                                                                  replace q393 := eq_true q393
                                                                                  have p394 : 0 ≤ (3 : Int) := (by decide)
                                                                                  have q394 : 3 < (t364.length : Int) := of_decide_eq_true (by first | (with_reducible assumption) | assumption)
                                                                                  obtain ⟨ad394, e394, hx394_0⟩ := Kd.at_int (Kd.R_reads' HO366.out).2.2 3 p394 q394
                                                                                  obtain rfl : ad393 = ad394 := (by injection e394)
                                                                                  (try simp only [show (3 : Int).toNat = 3 from rfl, Nat.reduceMul, Nat.reduceEqDiff, Go.Addr.add, ↓reduceIte] at hx394_0)
                                                                                  have qi394 : (3 < t364.length) = True := eq_true (Int.ofNat_lt.mp q394)
                                                                                  (try rw [show ((3 : Int)).toNat = 3 from rfl] at hx394_0)
                                                                                  replace p394 := eq_true p394
                                                                                  replace q394 := eq_true q394
                                                                                  refine start_ (n := 56) (S := fun w' => w'.cell? ⟨gb310, 0, none⟩ = some (.int .i64 31) ∧ w'.cell? ⟨gb310, 1, none⟩ = some (.int .i64 1073741824) ∧ w'.cell? ⟨ad386.block, ad386.off + 18, none⟩ = some (.int .i64 ((rd_T27 t344 9).f0)) ∧ w'.cell? ⟨ad386.block, ad386.off + 18 + 1, none⟩ = some (.int .i64 ((rd_T27 t344 9).f1)) ∧ w'.cell? ⟨ad387.block, ad387.off + 2, none⟩ = some (.int .u8 (rd t352 2)) ∧ w'.cell? ⟨ad387.block, ad387.off + 3, none⟩ = some (.int .u8 (rd t352 3)) ∧ w'.cell? ⟨ad387.block, ad387.off + 6, none⟩ = some (.int .u8 (rd t352 6)) ∧ w'.cell? ⟨ad390.block, ad390.off + 4, none⟩ = some (.int .u8 (rd t360 4)) ∧ w'.cell? ⟨ad390.block, ad390.off + 6, none⟩ = some (.int .u8 (rd t360 6)) ∧ w'.cell? ⟨ad390.block, ad390.off + 9, none⟩ = some (.int .u8 (rd t360 9)) ∧ w'.cell? ⟨ad393.block, ad393.off + 2, none⟩ = some (.int .u8 (rd t364 2)) ∧ w'.cell? ⟨ad393.block, ad393.off + 3, none⟩ = some (.int .u8 (rd t364 3))) (ds := []) #[O, O, O, O, O, O, O, O, O, O, O, O, O, O, O, O, O, O, O, O, O, O, O, O, O, O, O, O, O, O, O, O, O, O, O, O, O, O, O, O, O, O, O, O, O, O, O, O, O, O, O, O, O, O, O, O] (by kernel_rfl) rfl rfl ⟨(blk_cell BK310.out 0).trans rfl, (blk_cell BK310.out 1).trans rfl, hx386_0, hx386_1, hx387_0, hx388_0, hx389_0, hx390_0, hx391_0, hx392_0, hx393_0, hx394_0⟩ (fun hHeld => ?_); refine with_tabW twoslotlaw15_DescNames.tab33 twoslotlaw15_DescNames.bits33 (fun HT_ HW_ => ?_)
                                                                                  generalize w113.drew = w118 at HO346 HO354 HO362 HO366 BK310 HB hx386_0 hx386_1 hx387_0 hx388_0 hx389_0 hx390_0 hx391_0 hx392_0 hx393_0 hx394_0 hHeld ⊢
                                                                                  refine pu (i := 0) (N := some 223) (v := ?_) (a' := ?_) #[X, O, O, O, O, O, O, O, O, O, O, O, O, O, O, O, O, O, O, O, O, O, O, O, O, O, O, O, O, O, O, O, O, O, O, O, O, O, O, O, O, O, O, O, O, O, O, O, O, O, O, O, O, O, O, O] rfl rfl HT_ (by kernel_rfl) (fun _ _ _ h => h) ⟨by rfl, ?_⟩ ?_ ?_
                                                                                  rotate_left
                                                                                  · intro w'; go_simp; with_reducible rfl
                                                                                  rotate_left
                                                                                  · simp only [sP]
                                                                                    rfl
                                                                                  refine pu (i := 1) (N := some 224) (v := ?_) (a' := ?_) #[X, X, O, O, O, O, O, O, O, O, O, O, O, O, O, O, O, O, O, O, O, O, O, O, O, O, O, O, O, O, O, O, O, O, O, O, O, O, O, O, O, O, O, O, O, O, O, O, O, O, O, O, O, O, O, O] rfl rfl HT_ (by kernel_rfl) (fun _ _ _ h => h) ⟨by rfl, ?_⟩ ?_ ?_
                                                                                  rotate_left
                                                                                  · intro w'; go_simp; with_reducible rfl
                                                                                  rotate_left
                                                                                  · simp only [sP]
                                                                                    rfl
                                                                                  refine pu (i := 2) (N := some 225) (v := ?_) (a' := ?_) #[X, X, X, O, O, O, O, O, O, O, O, O, O, O, O, O, O, O, O, O, O, O, O, O, O, O, O, O, O, O, O, O, O, O, O, O, O, O, O, O, O, O, O, O, O, O, O, O, O, O, O, O, O, O, O, O] rfl rfl HT_ (by kernel_rfl) (fun _ _ _ h => h) ⟨by rfl, ?_⟩ ?_ ?_
                                                                                  rotate_left
                                                                                  · intro w'; go_simp; with_reducible rfl
                                                                                  rotate_left
                                                                                  · simp only [sP]
                                                                                    rfl
                                                                                  refine tu (i := 3) (N := some 226) (v := ?_) (a' := ?_) #[X, X, X, X, O, O, O, O, O, O, O, O, O, O, O, O, O, O, O, O, O, O, O, O, O, O, O, O, O, O, O, O, O, O, O, O, O, O, O, O, O, O, O, O, O, O, O, O, O, O, O, O, O, O, O, O] rfl rfl HT_ HW_ (by kernel_rfl) (fun _ _ _ h => h) ⟨by rfl, ?_⟩ hHeld ?_ ?_
                                                                                  rotate_left
                                                                                  · rintro w' ⟨s0, s1, s2, s3, s4, s5, s6, s7, s8, s9, s10, s11⟩; go_simp; with_reducible rfl
                                                                                  rotate_left
                                                                                  · simp only [sP]
                                                                                    rfl
                                                                                  refine tu (i := 4) (N := some 227) (v := ?_) (a' := ?_) #[X, X, X, X, X, O, O, O, O, O, O, O, O, O, O, O, O, O, O, O, O, O, O, O, O, O, O, O, O, O, O, O, O, O, O, O, O, O, O, O, O, O, O, O, O, O, O, O, O, O, O, O, O, O, O, O] rfl rfl HT_ HW_ (by kernel_rfl) (fun _ _ _ h => h) ⟨by rfl, ?_⟩ hHeld ?_ ?_
                                                                                  rotate_left
                                                                                  · rintro w' ⟨s0, s1, s2, s3, s4, s5, s6, s7, s8, s9, s10, s11⟩; go_simp; with_reducible rfl
                                                                                  rotate_left
                                                                                  · simp only [sP]
                                                                                    rfl
                                                                                  refine pu (i := 5) (N := some 228) (v := ?_) (a' := ?_) #[X, X, X, X, X, X, O, O, O, O, O, O, O, O, O, O, O, O, O, O, O, O, O, O, O, O, O, O, O, O, O, O, O, O, O, O, O, O, O, O, O, O, O, O, O, O, O, O, O, O, O, O, O, O, O, O] rfl rfl HT_ (by kernel_rfl) (fun _ _ _ h => h) ⟨by rfl, ?_⟩ ?_ ?_
                                                                                  rotate_left
                                                                                  · intro w'; go_simp; with_reducible rfl
                                                                                  rotate_left
                                                                                  · simp only [sP]
                                                                                    rfl
                                                                                  refine pu (i := 6) (N := some 229) (v := ?_) (a' := ?_) #[X, X, X, X, X, X, X, O, O, O, O, O, O, O, O, O, O, O, O, O, O, O, O, O, O, O, O, O, O, O, O, O, O, O, O, O, O, O, O, O, O, O, O, O, O, O, O, O, O, O, O, O, O, O, O, O] rfl rfl HT_ (by kernel_rfl) (fun _ _ _ h => h) ⟨by rfl, ?_⟩ ?_ ?_
                                                                                  rotate_left
                                                                                  · intro w'; go_simp; with_reducible rfl
                                                                                  rotate_left
                                                                                  · simp only [sP]
                                                                                    rfl
                                                                                  refine pu (i := 7) (N := some 230) (v := ?_) (a' := ?_) #[X, X, X, X, X, X, X, X, O, O, O, O, O, O, O, O, O, O, O, O, O, O, O, O, O, O, O, O, O, O, O, O, O, O, O, O, O, O, O, O, O, O, O, O, O, O, O, O, O, O, O, O, O, O, O, O] rfl rfl HT_ (by kernel_rfl) (fun _ _ _ h => h) ⟨by rfl, ?_⟩ ?_ ?_
                                                                                  rotate_left
                                                                                  · intro w'; go_simp; with_reducible rfl
                                                                                  rotate_left
                                                                                  · simp only [sP]
                                                                                    rfl
                                                                                  refine pu (i := 8) (N := some 231) (v := ?_) (a' := ?_) #[X, X, X, X, X, X, X, X, X, O, O, O, O, O, O, O, O, O, O, O, O, O, O, O, O, O, O, O, O, O, O, O, O, O, O, O, O, O, O, O, O, O, O, O, O, O, O, O, O, O, O, O, O, O, O, O] rfl rfl HT_ (by kernel_rfl) (fun _ _ _ h => h) ⟨by rfl, ?_⟩ ?_ ?_
                                                                                  rotate_left
                                                                                  · intro w'; go_simp; with_reducible rfl
                                                                                  rotate_left
                                                                                  · simp only [sP]
                                                                                    rfl
                                                                                  refine pu (i := 9) (N := some 232) (v := ?_) (a' := ?_) #[X, X, X, X, X, X, X, X, X, X, O, O, O, O, O, O, O, O, O, O, O, O, O, O, O, O, O, O, O, O, O, O, O, O, O, O, O, O, O, O, O, O, O, O, O, O, O, O, O, O, O, O, O, O, O, O] rfl rfl HT_ (by kernel_rfl) (fun _ _ _ h => h) ⟨by rfl, ?_⟩ ?_ ?_
                                                                                  rotate_left
                                                                                  · intro w'; go_simp; with_reducible rfl
                                                                                  rotate_left
                                                                                  · simp only [sP]
                                                                                    rfl
                                                                                  refine tu (i := 10) (N := some 233) (v := ?_) (a' := ?_) #[X, X, X, X, X, X, X, X, X, X, X, O, O, O, O, O, O, O, O, O, O, O, O, O, O, O, O, O, O, O, O, O, O, O, O, O, O, O, O, O, O, O, O, O, O, O, O, O, O, O, O, O, O, O, O, O] rfl rfl HT_ HW_ (by kernel_rfl) (fun _ _ _ h => h) ⟨by rfl, ?_⟩ hHeld ?_ ?_
                                                                                  rotate_left
                                                                                  · rintro w' ⟨s0, s1, s2, s3, s4, s5, s6, s7, s8, s9, s10, s11⟩; go_simp; with_reducible rfl
                                                                                  rotate_left
                                                                                  · simp only [sP]
                                                                                    rfl
                                                                                  refine pu (i := 11) (N := some 234) (v := ?_) (a' := ?_) #[X, X, X, X, X, X, X, X, X, X, X, X, O, O, O, O, O, O, O, O, O, O, O, O, O, O, O, O, O, O, O, O, O, O, O, O, O, O, O, O, O, O, O, O, O, O, O, O, O, O, O, O, O, O, O, O] rfl rfl HT_ (by kernel_rfl) (fun _ _ _ h => h) ⟨by rfl, ?_⟩ ?_ ?_
                                                                                  rotate_left
                                                                                  · intro w'; go_simp; with_reducible rfl
                                                                                  rotate_left
                                                                                  · simp only [sP]
                                                                                    rfl
                                                                                  refine pu (i := 12) (N := some 235) (v := ?_) (a' := ?_) #[X, X, X, X, X, X, X, X, X, X, X, X, X, O, O, O, O, O, O, O, O, O, O, O, O, O, O, O, O, O, O, O, O, O, O, O, O, O, O, O, O, O, O, O, O, O, O, O, O, O, O, O, O, O, O, O] rfl rfl HT_ (by kernel_rfl) (fun _ _ _ h => h) ⟨by rfl, ?_⟩ ?_ ?_
                                                                                  rotate_left
                                                                                  · intro w'; go_simp; with_reducible rfl
                                                                                  rotate_left
                                                                                  · simp only [sP]
                                                                                    rfl
                                                                                  refine pu (i := 13) (N := some 236) (v := ?_) (a' := ?_) #[X, X, X, X, X, X, X, X, X, X, X, X, X, X, O, O, O, O, O, O, O, O, O, O, O, O, O, O, O, O, O, O, O, O, O, O, O, O, O, O, O, O, O, O, O, O, O, O, O, O, O, O, O, O, O, O] rfl rfl HT_ (by kernel_rfl) (fun _ _ _ h => h) ⟨by rfl, ?_⟩ ?_ ?_
                                                                                  rotate_left
                                                                                  · intro w'; go_simp; with_reducible rfl
                                                                                  rotate_left
                                                                                  · simp only [sP]
                                                                                    rfl
                                                                                  refine pu (i := 14) (N := some 237) (v := ?_) (a' := ?_) #[X, X, X, X, X, X, X, X, X, X, X, X, X, X, X, O, O, O, O, O, O, O, O, O, O, O, O, O, O, O, O, O, O, O, O, O, O, O, O, O, O, O, O, O, O, O, O, O, O, O, O, O, O, O, O, O] rfl rfl HT_ (by kernel_rfl) (fun _ _ _ h => h) ⟨by rfl, ?_⟩ ?_ ?_
                                                                                  rotate_left
                                                                                  · intro w'; go_simp; with_reducible rfl
                                                                                  rotate_left
                                                                                  · simp only [sP]
                                                                                    rfl
                                                                                  refine pu (i := 15) (N := some 238) (v := ?_) (a' := ?_) #[X, X, X, X, X, X, X, X, X, X, X, X, X, X, X, X, O, O, O, O, O, O, O, O, O, O, O, O, O, O, O, O, O, O, O, O, O, O, O, O, O, O, O, O, O, O, O, O, O, O, O, O, O, O, O, O] rfl rfl HT_ (by kernel_rfl) (fun _ _ _ h => h) ⟨by rfl, ?_⟩ ?_ ?_
                                                                                  rotate_left
                                                                                  · intro w'; go_simp; with_reducible rfl
                                                                                  rotate_left
                                                                                  · simp only [sP]
                                                                                    rfl
                                                                                  refine tu (i := 16) (N := some 239) (v := ?_) (a' := ?_) #[X, X, X, X, X, X, X, X, X, X, X, X, X, X, X, X, X, O, O, O, O, O, O, O, O, O, O, O, O, O, O, O, O, O, O, O, O, O, O, O, O, O, O, O, O, O, O, O, O, O, O, O, O, O, O, O] rfl rfl HT_ HW_ (by kernel_rfl) (fun _ _ _ h => h) ⟨by rfl, ?_⟩ hHeld ?_ ?_
                                                                                  rotate_left
                                                                                  · rintro w' ⟨s0, s1, s2, s3, s4, s5, s6, s7, s8, s9, s10, s11⟩; go_simp; with_reducible rfl
                                                                                  rotate_left
                                                                                  · simp only [sP]
                                                                                    rfl
                                                                                  refine pu (i := 17) (N := some 240) (v := ?_) (a' := ?_) #[X, X, X, X, X, X, X, X, X, X, X, X, X, X, X, X, X, X, O, O, O, O, O, O, O, O, O, O, O, O, O, O, O, O, O, O, O, O, O, O, O, O, O, O, O, O, O, O, O, O, O, O, O, O, O, O] rfl rfl HT_ (by kernel_rfl) (fun _ _ _ h => h) ⟨by rfl, ?_⟩ ?_ ?_
                                                                                  rotate_left
                                                                                  · intro w'; go_simp; with_reducible rfl
                                                                                  rotate_left
                                                                                  · simp only [sP]
                                                                                    rfl
                                                                                  refine pu (i := 18) (N := some 241) (v := ?_) (a' := ?_) #[X, X, X, X, X, X, X, X, X, X, X, X, X, X, X, X, X, X, X, O, O, O, O, O, O, O, O, O, O, O, O, O, O, O, O, O, O, O, O, O, O, O, O, O, O, O, O, O, O, O, O, O, O, O, O, O] rfl rfl HT_ (by kernel_rfl) (fun _ _ _ h => h) ⟨by rfl, ?_⟩ ?_ ?_
                                                                                  rotate_left
                                                                                  · intro w'; go_simp; with_reducible rfl
                                                                                  rotate_left
                                                                                  · simp only [sP]
                                                                                    rfl
                                                                                  refine pu (i := 19) (N := some 242) (v := ?_) (a' := ?_) #[X, X, X, X, X, X, X, X, X, X, X, X, X, X, X, X, X, X, X, X, O, O, O, O, O, O, O, O, O, O, O, O, O, O, O, O, O, O, O, O, O, O, O, O, O, O, O, O, O, O, O, O, O, O, O, O] rfl rfl HT_ (by kernel_rfl) (fun _ _ _ h => h) ⟨by rfl, ?_⟩ ?_ ?_
                                                                                  rotate_left
                                                                                  · intro w'; go_simp; with_reducible rfl
                                                                                  rotate_left
                                                                                  · simp only [sP]
                                                                                    rfl
                                                                                  refine pu (i := 20) (N := some 243) (v := ?_) (a' := ?_) #[X, X, X, X, X, X, X, X, X, X, X, X, X, X, X, X, X, X, X, X, X, O, O, O, O, O, O, O, O, O, O, O, O, O, O, O, O, O, O, O, O, O, O, O, O, O, O, O, O, O, O, O, O, O, O, O] rfl rfl HT_ (by kernel_rfl) (fun _ _ _ h => h) ⟨by rfl, ?_⟩ ?_ ?_
                                                                                  rotate_left
                                                                                  · intro w'; go_simp; with_reducible rfl
                                                                                  rotate_left
                                                                                  · simp only [sP]
                                                                                    rfl
                                                                                  refine pu (i := 21) (N := some 244) (v := ?_) (a' := ?_) #[X, X, X, X, X, X, X, X, X, X, X, X, X, X, X, X, X, X, X, X, X, X, O, O, O, O, O, O, O, O, O, O, O, O, O, O, O, O, O, O, O, O, O, O, O, O, O, O, O, O, O, O, O, O, O, O] rfl rfl HT_ (by kernel_rfl) (fun _ _ _ h => h) ⟨by rfl, ?_⟩ ?_ ?_
                                                                                  rotate_left
                                                                                  · intro w'; go_simp; with_reducible rfl
                                                                                  rotate_left
                                                                                  · simp only [sP]
                                                                                    rfl
                                                                                  refine tu (i := 22) (N := some 245) (v := ?_) (a' := ?_) #[X, X, X, X, X, X, X, X, X, X, X, X, X, X, X, X, X, X, X, X, X, X, X, O, O, O, O, O, O, O, O, O, O, O, O, O, O, O, O, O, O, O, O, O, O, O, O, O, O, O, O, O, O, O, O, O] rfl rfl HT_ HW_ (by kernel_rfl) (fun _ _ _ h => h) ⟨by rfl, ?_⟩ hHeld ?_ ?_
                                                                                  rotate_left
                                                                                  · rintro w' ⟨s0, s1, s2, s3, s4, s5, s6, s7, s8, s9, s10, s11⟩; go_simp; with_reducible rfl
                                                                                  rotate_left
                                                                                  · simp only [sP]
                                                                                    rfl
                                                                                  refine pu (i := 23) (N := some 246) (v := ?_) (a' := ?_) #[X, X, X, X, X, X, X, X, X, X, X, X, X, X, X, X, X, X, X, X, X, X, X, X, O, O, O, O, O, O, O, O, O, O, O, O, O, O, O, O, O, O, O, O, O, O, O, O, O, O, O, O, O, O, O, O] rfl rfl HT_ (by kernel_rfl) (fun _ _ _ h => h) ⟨by rfl, ?_⟩ ?_ ?_
                                                                                  rotate_left
                                                                                  · intro w'; go_simp; with_reducible rfl
                                                                                  rotate_left
                                                                                  · simp only [sP]
                                                                                    rfl
                                                                                  refine pu (i := 24) (N := some 247) (v := ?_) (a' := ?_) #[X, X, X, X, X, X, X, X, X, X, X, X, X, X, X, X, X, X, X, X, X, X, X, X, X, O, O, O, O, O, O, O, O, O, O, O, O, O, O, O, O, O, O, O, O, O, O, O, O, O, O, O, O, O, O, O] rfl rfl HT_ (by kernel_rfl) (fun _ _ _ h => h) ⟨by rfl, ?_⟩ ?_ ?_
                                                                                  rotate_left
                                                                                  · intro w'; go_simp; with_reducible rfl
                                                                                  rotate_left
                                                                                  · simp only [sP]
                                                                                    rfl
                                                                                  refine pu (i := 25) (N := some 248) (v := ?_) (a' := ?_) #[X, X, X, X, X, X, X, X, X, X, X, X, X, X, X, X, X, X, X, X, X, X, X, X, X, X, O, O, O, O, O, O, O, O, O, O, O, O, O, O, O, O, O, O, O, O, O, O, O, O, O, O, O, O, O, O] rfl rfl HT_ (by kernel_rfl) (fun _ _ _ h => h) ⟨by rfl, ?_⟩ ?_ ?_
                                                                                  rotate_left
                                                                                  · intro w'; go_simp; with_reducible rfl
                                                                                  rotate_left
                                                                                  · simp only [sP]
                                                                                    rfl
                                                                                  refine pu (i := 26) (N := some 249) (v := ?_) (a' := ?_) #[X, X, X, X, X, X, X, X, X, X, X, X, X, X, X, X, X, X, X, X, X, X, X, X, X, X, X, O, O, O, O, O, O, O, O, O, O, O, O, O, O, O, O, O, O, O, O, O, O, O, O, O, O, O, O, O] rfl rfl HT_ (by kernel_rfl) (fun _ _ _ h => h) ⟨by rfl, ?_⟩ ?_ ?_
                                                                                  rotate_left
                                                                                  · intro w'; go_simp; with_reducible rfl
                                                                                  rotate_left
                                                                                  · simp only [sP]
                                                                                    rfl
                                                                                  refine pu (i := 27) (N := some 250) (v := ?_) (a' := ?_) #[X, X, X, X, X, X, X, X, X, X, X, X, X, X, X, X, X, X, X, X, X, X, X, X, X, X, X, X, O, O, O, O, O, O, O, O, O, O, O, O, O, O, O, O, O, O, O, O, O, O, O, O, O, O, O, O] rfl rfl HT_ (by kernel_rfl) (fun _ _ _ h => h) ⟨by rfl, ?_⟩ ?_ ?_
                                                                                  rotate_left
                                                                                  · intro w'; go_simp; with_reducible rfl
                                                                                  rotate_left
                                                                                  · simp only [sP]
                                                                                    rfl
                                                                                  refine tu (i := 28) (N := some 251) (v := ?_) (a' := ?_) #[X, X, X, X, X, X, X, X, X, X, X, X, X, X, X, X, X, X, X, X, X, X, X, X, X, X, X, X, X, O, O, O, O, O, O, O, O, O, O, O, O, O, O, O, O, O, O, O, O, O, O, O, O, O, O, O] rfl rfl HT_ HW_ (by kernel_rfl) (fun _ _ _ h => h) ⟨by rfl, ?_⟩ hHeld ?_ ?_
                                                                                  rotate_left
                                                                                  · rintro w' ⟨s0, s1, s2, s3, s4, s5, s6, s7, s8, s9, s10, s11⟩; go_simp; with_reducible rfl
                                                                                  rotate_left
                                                                                  · simp only [sP]
                                                                                    rfl
                                                                                  refine pu (i := 29) (N := some 252) (v := ?_) (a' := ?_) #[X, X, X, X, X, X, X, X, X, X, X, X, X, X, X, X, X, X, X, X, X, X, X, X, X, X, X, X, X, X, O, O, O, O, O, O, O, O, O, O, O, O, O, O, O, O, O, O, O, O, O, O, O, O, O, O] rfl rfl HT_ (by kernel_rfl) (fun _ _ _ h => h) ⟨by rfl, ?_⟩ ?_ ?_
                                                                                  rotate_left
                                                                                  · intro w'; go_simp; with_reducible rfl
                                                                                  rotate_left
                                                                                  · simp only [sP]
                                                                                    rfl
                                                                                  refine pu (i := 30) (N := some 253) (v := ?_) (a' := ?_) #[X, X, X, X, X, X, X, X, X, X, X, X, X, X, X, X, X, X, X, X, X, X, X, X, X, X, X, X, X, X, X, O, O, O, O, O, O, O, O, O, O, O, O, O, O, O, O, O, O, O, O, O, O, O, O, O] rfl rfl HT_ (by kernel_rfl) (fun _ _ _ h => h) ⟨by rfl, ?_⟩ ?_ ?_
                                                                                  rotate_left
                                                                                  · intro w'; go_simp; with_reducible rfl
                                                                                  rotate_left
                                                                                  · simp only [sP]
                                                                                    rfl
                                                                                  refine pu (i := 31) (N := some 254) (v := ?_) (a' := ?_) #[X, X, X, X, X, X, X, X, X, X, X, X, X, X, X, X, X, X, X, X, X, X, X, X, X, X, X, X, X, X, X, X, O, O, O, O, O, O, O, O, O, O, O, O, O, O, O, O, O, O, O, O, O, O, O, O] rfl rfl HT_ (by kernel_rfl) (fun _ _ _ h => h) ⟨by rfl, ?_⟩ ?_ ?_
                                                                                  rotate_left
                                                                                  · intro w'; go_simp; with_reducible rfl
                                                                                  rotate_left
                                                                                  · simp only [sP]
                                                                                    rfl
                                                                                  refine pu (i := 32) (N := some 255) (v := ?_) (a' := ?_) #[X, X, X, X, X, X, X, X, X, X, X, X, X, X, X, X, X, X, X, X, X, X, X, X, X, X, X, X, X, X, X, X, X, O, O, O, O, O, O, O, O, O, O, O, O, O, O, O, O, O, O, O, O, O, O, O] rfl rfl HT_ (by kernel_rfl) (fun _ _ _ h => h) ⟨by rfl, ?_⟩ ?_ ?_
                                                                                  rotate_left
                                                                                  · intro w'; go_simp; with_reducible rfl
                                                                                  rotate_left
                                                                                  · simp only [sP]
                                                                                    rfl
                                                                                  refine pu (i := 33) (N := some 256) (v := ?_) (a' := ?_) #[X, X, X, X, X, X, X, X, X, X, X, X, X, X, X, X, X, X, X, X, X, X, X, X, X, X, X, X, X, X, X, X, X, X, O, O, O, O, O, O, O, O, O, O, O, O, O, O, O, O, O, O, O, O, O, O] rfl rfl HT_ (by kernel_rfl) (fun _ _ _ h => h) ⟨by rfl, ?_⟩ ?_ ?_
                                                                                  rotate_left
                                                                                  · intro w'; go_simp; with_reducible rfl
                                                                                  rotate_left
                                                                                  · simp only [sP]
                                                                                    rfl
                                                                                  refine tu (i := 34) (N := some 257) (v := ?_) (a' := ?_) #[X, X, X, X, X, X, X, X, X, X, X, X, X, X, X, X, X, X, X, X, X, X, X, X, X, X, X, X, X, X, X, X, X, X, X, O, O, O, O, O, O, O, O, O, O, O, O, O, O, O, O, O, O, O, O, O] rfl rfl HT_ HW_ (by kernel_rfl) (fun _ _ _ h => h) ⟨by rfl, ?_⟩ hHeld ?_ ?_
                                                                                  rotate_left
                                                                                  · rintro w' ⟨s0, s1, s2, s3, s4, s5, s6, s7, s8, s9, s10, s11⟩; go_simp; with_reducible rfl
                                                                                  rotate_left
                                                                                  · simp only [sP]
                                                                                    rfl
                                                                                  refine pu (i := 35) (N := some 258) (v := ?_) (a' := ?_) #[X, X, X, X, X, X, X, X, X, X, X, X, X, X, X, X, X, X, X, X, X, X, X, X, X, X, X, X, X, X, X, X, X, X, X, X, O, O, O, O, O, O, O, O, O, O, O, O, O, O, O, O, O, O, O, O] rfl rfl HT_ (by kernel_rfl) (fun _ _ _ h => h) ⟨by rfl, ?_⟩ ?_ ?_
                                                                                  rotate_left
                                                                                  · intro w'; go_simp; with_reducible rfl
                                                                                  rotate_left
                                                                                  · simp only [sP]
                                                                                    rfl
                                                                                  refine pu (i := 36) (N := some 259) (v := ?_) (a' := ?_) #[X, X, X, X, X, X, X, X, X, X, X, X, X, X, X, X, X, X, X, X, X, X, X, X, X, X, X, X, X, X, X, X, X, X, X, X, X, O, O, O, O, O, O, O, O, O, O, O, O, O, O, O, O, O, O, O] rfl rfl HT_ (by kernel_rfl) (fun _ _ _ h => h) ⟨by rfl, ?_⟩ ?_ ?_
                                                                                  rotate_left
                                                                                  · intro w'; go_simp; with_reducible rfl
                                                                                  rotate_left
                                                                                  · simp only [sP]
                                                                                    rfl
                                                                                  refine pu (i := 37) (N := some 260) (v := ?_) (a' := ?_) #[X, X, X, X, X, X, X, X, X, X, X, X, X, X, X, X, X, X, X, X, X, X, X, X, X, X, X, X, X, X, X, X, X, X, X, X, X, X, O, O, O, O, O, O, O, O, O, O, O, O, O, O, O, O, O, O] rfl rfl HT_ (by kernel_rfl) (fun _ _ _ h => h) ⟨by rfl, ?_⟩ ?_ ?_
                                                                                  rotate_left
                                                                                  · intro w'; go_simp; with_reducible rfl
                                                                                  rotate_left
                                                                                  · simp only [sP]
                                                                                    rfl
                                                                                  refine pu (i := 38) (N := some 261) (v := ?_) (a' := ?_) #[X, X, X, X, X, X, X, X, X, X, X, X, X, X, X, X, X, X, X, X, X, X, X, X, X, X, X, X, X, X, X, X, X, X, X, X, X, X, X, O, O, O, O, O, O, O, O, O, O, O, O, O, O, O, O, O] rfl rfl HT_ (by kernel_rfl) (fun _ _ _ h => h) ⟨by rfl, ?_⟩ ?_ ?_
                                                                                  rotate_left
                                                                                  · intro w'; go_simp; with_reducible rfl
                                                                                  rotate_left
                                                                                  · simp only [sP]
                                                                                    rfl
                                                                                  refine pu (i := 39) (N := some 262) (v := ?_) (a' := ?_) #[X, X, X, X, X, X, X, X, X, X, X, X, X, X, X, X, X, X, X, X, X, X, X, X, X, X, X, X, X, X, X, X, X, X, X, X, X, X, X, X, O, O, O, O, O, O, O, O, O, O, O, O, O, O, O, O] rfl rfl HT_ (by kernel_rfl) (fun _ _ _ h => h) ⟨by rfl, ?_⟩ ?_ ?_
                                                                                  rotate_left
                                                                                  · intro w'; go_simp; with_reducible rfl
                                                                                  rotate_left
                                                                                  · simp only [sP]
                                                                                    rfl
                                                                                  refine tu (i := 40) (N := some 263) (v := ?_) (a' := ?_) #[X, X, X, X, X, X, X, X, X, X, X, X, X, X, X, X, X, X, X, X, X, X, X, X, X, X, X, X, X, X, X, X, X, X, X, X, X, X, X, X, X, O, O, O, O, O, O, O, O, O, O, O, O, O, O, O] rfl rfl HT_ HW_ (by kernel_rfl) (fun _ _ _ h => h) ⟨by rfl, ?_⟩ hHeld ?_ ?_
                                                                                  rotate_left
                                                                                  · rintro w' ⟨s0, s1, s2, s3, s4, s5, s6, s7, s8, s9, s10, s11⟩; go_simp; with_reducible rfl
                                                                                  rotate_left
                                                                                  · simp only [sP]
                                                                                    rfl
                                                                                  refine pu (i := 41) (N := some 264) (v := ?_) (a' := ?_) #[X, X, X, X, X, X, X, X, X, X, X, X, X, X, X, X, X, X, X, X, X, X, X, X, X, X, X, X, X, X, X, X, X, X, X, X, X, X, X, X, X, X, O, O, O, O, O, O, O, O, O, O, O, O, O, O] rfl rfl HT_ (by kernel_rfl) (fun _ _ _ h => h) ⟨by rfl, ?_⟩ ?_ ?_
                                                                                  rotate_left
                                                                                  · intro w'; go_simp; with_reducible rfl
                                                                                  rotate_left
                                                                                  · simp only [sP]
                                                                                    rfl
                                                                                  refine pu (i := 42) (N := some 265) (v := ?_) (a' := ?_) #[X, X, X, X, X, X, X, X, X, X, X, X, X, X, X, X, X, X, X, X, X, X, X, X, X, X, X, X, X, X, X, X, X, X, X, X, X, X, X, X, X, X, X, O, O, O, O, O, O, O, O, O, O, O, O, O] rfl rfl HT_ (by kernel_rfl) (fun _ _ _ h => h) ⟨by rfl, ?_⟩ ?_ ?_
                                                                                  rotate_left
                                                                                  · intro w'; go_simp; with_reducible rfl
                                                                                  rotate_left
                                                                                  · simp only [sP]
                                                                                    rfl
                                                                                  refine pu (i := 43) (N := some 266) (v := ?_) (a' := ?_) #[X, X, X, X, X, X, X, X, X, X, X, X, X, X, X, X, X, X, X, X, X, X, X, X, X, X, X, X, X, X, X, X, X, X, X, X, X, X, X, X, X, X, X, X, O, O, O, O, O, O, O, O, O, O, O, O] rfl rfl HT_ (by kernel_rfl) (fun _ _ _ h => h) ⟨by rfl, ?_⟩ ?_ ?_
                                                                                  rotate_left
                                                                                  · intro w'; go_simp; with_reducible rfl
                                                                                  rotate_left
                                                                                  · simp only [sP]
                                                                                    rfl
                                                                                  refine pu (i := 44) (N := some 267) (v := ?_) (a' := ?_) #[X, X, X, X, X, X, X, X, X, X, X, X, X, X, X, X, X, X, X, X, X, X, X, X, X, X, X, X, X, X, X, X, X, X, X, X, X, X, X, X, X, X, X, X, X, O, O, O, O, O, O, O, O, O, O, O] rfl rfl HT_ (by kernel_rfl) (fun _ _ _ h => h) ⟨by rfl, ?_⟩ ?_ ?_
                                                                                  rotate_left
                                                                                  · intro w'; go_simp; with_reducible rfl
                                                                                  rotate_left
                                                                                  · simp only [sP]
                                                                                    rfl
                                                                                  refine pu (i := 45) (N := some 268) (v := ?_) (a' := ?_) #[X, X, X, X, X, X, X, X, X, X, X, X, X, X, X, X, X, X, X, X, X, X, X, X, X, X, X, X, X, X, X, X, X, X, X, X, X, X, X, X, X, X, X, X, X, X, O, O, O, O, O, O, O, O, O, O] rfl rfl HT_ (by kernel_rfl) (fun _ _ _ h => h) ⟨by rfl, ?_⟩ ?_ ?_
                                                                                  rotate_left
                                                                                  · intro w'; go_simp; with_reducible rfl
                                                                                  rotate_left
                                                                                  · simp only [sP]
                                                                                    rfl
                                                                                  refine tu (i := 46) (N := some 269) (v := ?_) (a' := ?_) #[X, X, X, X, X, X, X, X, X, X, X, X, X, X, X, X, X, X, X, X, X, X, X, X, X, X, X, X, X, X, X, X, X, X, X, X, X, X, X, X, X, X, X, X, X, X, X, O, O, O, O, O, O, O, O, O] rfl rfl HT_ HW_ (by kernel_rfl) (fun _ _ _ h => h) ⟨by rfl, ?_⟩ hHeld ?_ ?_
                                                                                  rotate_left
                                                                                  · rintro w' ⟨s0, s1, s2, s3, s4, s5, s6, s7, s8, s9, s10, s11⟩; go_simp; with_reducible rfl
                                                                                  rotate_left
                                                                                  · simp only [sP]
                                                                                    rfl
                                                                                  refine pu (i := 47) (N := some 270) (v := ?_) (a' := ?_) #[X, X, X, X, X, X, X, X, X, X, X, X, X, X, X, X, X, X, X, X, X, X, X, X, X, X, X, X, X, X, X, X, X, X, X, X, X, X, X, X, X, X, X, X, X, X, X, X, O, O, O, O, O, O, O, O] rfl rfl HT_ (by kernel_rfl) (fun _ _ _ h => h) ⟨by rfl, ?_⟩ ?_ ?_
                                                                                  rotate_left
                                                                                  · intro w'; go_simp; with_reducible rfl
                                                                                  rotate_left
                                                                                  · simp only [sP]
                                                                                    rfl
                                                                                  refine pu (i := 48) (N := some 271) (v := ?_) (a' := ?_) #[X, X, X, X, X, X, X, X, X, X, X, X, X, X, X, X, X, X, X, X, X, X, X, X, X, X, X, X, X, X, X, X, X, X, X, X, X, X, X, X, X, X, X, X, X, X, X, X, X, O, O, O, O, O, O, O] rfl rfl HT_ (by kernel_rfl) (fun _ _ _ h => h) ⟨by rfl, ?_⟩ ?_ ?_
                                                                                  rotate_left
                                                                                  · intro w'; go_simp; with_reducible rfl
                                                                                  rotate_left
                                                                                  · simp only [sP]
                                                                                    rfl
                                                                                  refine pu (i := 49) (N := some 272) (v := ?_) (a' := ?_) #[X, X, X, X, X, X, X, X, X, X, X, X, X, X, X, X, X, X, X, X, X, X, X, X, X, X, X, X, X, X, X, X, X, X, X, X, X, X, X, X, X, X, X, X, X, X, X, X, X, X, O, O, O, O, O, O] rfl rfl HT_ (by kernel_rfl) (fun _ _ _ h => h) ⟨by rfl, ?_⟩ ?_ ?_
                                                                                  rotate_left
                                                                                  · intro w'; go_simp; with_reducible rfl
                                                                                  rotate_left
                                                                                  · simp only [sP]
                                                                                    rfl
                                                                                  refine pu (i := 50) (N := some 273) (v := ?_) (a' := ?_) #[X, X, X, X, X, X, X, X, X, X, X, X, X, X, X, X, X, X, X, X, X, X, X, X, X, X, X, X, X, X, X, X, X, X, X, X, X, X, X, X, X, X, X, X, X, X, X, X, X, X, X, O, O, O, O, O] rfl rfl HT_ (by kernel_rfl) (fun _ _ _ h => h) ⟨by rfl, ?_⟩ ?_ ?_
                                                                                  rotate_left
                                                                                  · intro w'; go_simp; with_reducible rfl
                                                                                  rotate_left
                                                                                  · simp only [sP]
                                                                                    rfl
                                                                                  refine pu (i := 51) (N := some 274) (v := ?_) (a' := ?_) #[X, X, X, X, X, X, X, X, X, X, X, X, X, X, X, X, X, X, X, X, X, X, X, X, X, X, X, X, X, X, X, X, X, X, X, X, X, X, X, X, X, X, X, X, X, X, X, X, X, X, X, X, O, O, O, O] rfl rfl HT_ (by kernel_rfl) (fun _ _ _ h => h) ⟨by rfl, ?_⟩ ?_ ?_
                                                                                  rotate_left
                                                                                  · intro w'; go_simp; with_reducible rfl
                                                                                  rotate_left
                                                                                  · simp only [sP]
                                                                                    rfl
                                                                                  refine tu (i := 52) (N := some 275) (v := ?_) (a' := ?_) #[X, X, X, X, X, X, X, X, X, X, X, X, X, X, X, X, X, X, X, X, X, X, X, X, X, X, X, X, X, X, X, X, X, X, X, X, X, X, X, X, X, X, X, X, X, X, X, X, X, X, X, X, X, O, O, O] rfl rfl HT_ HW_ (by kernel_rfl) (fun _ _ _ h => h) ⟨by rfl, ?_⟩ hHeld ?_ ?_
                                                                                  rotate_left
                                                                                  · rintro w' ⟨s0, s1, s2, s3, s4, s5, s6, s7, s8, s9, s10, s11⟩; go_simp; with_reducible rfl
                                                                                  rotate_left
                                                                                  · simp only [sP]
                                                                                    rfl
                                                                                  refine pu (i := 53) (N := some 276) (v := ?_) (a' := ?_) #[X, X, X, X, X, X, X, X, X, X, X, X, X, X, X, X, X, X, X, X, X, X, X, X, X, X, X, X, X, X, X, X, X, X, X, X, X, X, X, X, X, X, X, X, X, X, X, X, X, X, X, X, X, X, O, O] rfl rfl HT_ (by kernel_rfl) (fun _ _ _ h => h) ⟨by rfl, ?_⟩ ?_ ?_
                                                                                  rotate_left
                                                                                  · intro w'; go_simp; with_reducible rfl
                                                                                  rotate_left
                                                                                  · simp only [sP]
                                                                                    rfl
                                                                                  refine pu (i := 54) (N := some 277) (v := ?_) (a' := ?_) #[X, X, X, X, X, X, X, X, X, X, X, X, X, X, X, X, X, X, X, X, X, X, X, X, X, X, X, X, X, X, X, X, X, X, X, X, X, X, X, X, X, X, X, X, X, X, X, X, X, X, X, X, X, X, X, O] rfl rfl HT_ (by kernel_rfl) (fun _ _ _ h => h) ⟨by rfl, ?_⟩ ?_ ?_
                                                                                  rotate_left
                                                                                  · intro w'; go_simp; with_reducible rfl
                                                                                  rotate_left
                                                                                  · simp only [sP]
                                                                                    rfl
                                                                                  refine pu (i := 55) (N := some 0) (v := ?_) (a' := ?_) #[X, X, X, X, X, X, X, X, X, X, X, X, X, X, X, X, X, X, X, X, X, X, X, X, X, X, X, X, X, X, X, X, X, X, X, X, X, X, X, X, X, X, X, X, X, X, X, X, X, X, X, X, X, X, X, X] rfl rfl HT_ (by kernel_rfl) (fun _ _ _ h => h) ⟨by rfl, ?_⟩ ?_ ?_
                                                                                  rotate_left
                                                                                  · intro w'; go_simp; with_reducible rfl
                                                                                  rotate_left
                                                                                  · simp only [sP]
                                                                                    rfl
                                                                                  refine done_ (done_of HT_.out (by kernel_rfl)) ?_
                                                                                  try go_wp2
                                                                                  go_ret
                                                                                  exact ⟨by first | rfl | (simp [errW_none, errW_some] <;> rfl) | (simp [*, errW_none, errW_some] <;> rfl), by repeat (first | exact sH HB.out | refine sN (w := w) ?_ | with_reducible refine sG (w := w) ?_ (by assumption))⟩
                                                                                · rw [if_neg c82] at H
                                                                                  exact absurd H (by simp)
                                                                              · rw [if_neg c81] at H
                                                                                exact absurd H (by simp)
                                                                            · rw [if_neg c80] at H
                                                                              exact absurd H (by simp)
                                                                          · rw [if_neg c79] at H
                                                                            exact absurd H (by simp)
                                                                        · rw [if_neg c78] at H
                                                                          exact absurd H (by simp)
                                                                      · rw [if_neg c77] at H
                                                                        exact absurd H (by simp)
                                                                    · rw [if_neg c76] at H
                                                                      exact absurd H (by simp)
                                                                  · rw [if_neg c75] at H
                                                                    exact absurd H (by simp)
                                                                · rw [if_neg c74] at H
                                                                  exact absurd H (by simp)
                                                              · rw [if_neg c73] at H
                                                                exact absurd H (by simp)
                                                            · rw [if_neg c72] at H
                                                              exact absurd H (by simp)
                                                          · rw [if_neg c71] at H
                                                            exact absurd H (by simp)
                                                        · rw [if_neg c70] at H
                                                          exact absurd H (by simp)
                                                      · rw [if_neg c69] at H
                                                        exact absurd H (by simp)
                                                    · rw [if_neg c68] at H
                                                      exact absurd H (by simp)
                                                  · rw [if_neg c67] at H
                                                    exact absurd H (by simp)
                                                · rw [if_neg c66] at H
                                                  exact absurd H (by simp)
                                              · rw [if_neg c65] at H
                                                exact absurd H (by simp)
                                            · rw [if_neg c64] at H
                                              exact absurd H (by simp)
                                          · rw [if_neg c63] at H
                                            exact absurd H (by simp)
                                        · rw [if_neg c62] at H
                                          exact absurd H (by simp)
                                      · rw [if_neg c61] at H
                                        exact absurd H (by simp)
                                    · rw [if_neg c60] at H
                                      exact absurd H (by simp)
                                  · rw [if_neg c59] at H
                                    exact absurd H (by simp)
                                · rw [if_neg c58] at H
                                  exact absurd H (by simp)
                              · rw [if_neg c57] at H
                                exact absurd H (by simp)
                            · rw [if_neg c56] at H
                              exact absurd H (by simp)
                          · rw [if_neg c55] at H
                            exact absurd H (by simp)
                        · rw [if_neg c54] at H
                          exact absurd H (by simp)
                      · rw [if_neg c53] at H
                        exact absurd H (by simp)
                    · rw [if_neg c52] at H
                      exact absurd H (by simp)
                  · rw [if_neg c51] at H
                    exact absurd H (by simp)
                · rw [if_neg c44] at H
                  exact absurd H (by simp)
  · replace c2 := Bool.eq_false_iff.mpr c2
    subst c2
    have H1 : (none) = some r := by rw [if_neg (show ¬ (false = true) by decide)] at H; exact H
    clear H
    have H := H1
    clear H1
    exact absurd H (by simp)

/-- THE ONE PURE STATEMENT of twoslotlaw15_DescNames: yours. -/
def twoslotlaw15_DescNames.Pure : Prop := ∃ k, twoslotlaw15_DescNames.f k  = some true
theorem twoslotlaw15_DescNames.walk (P : twoslotlaw15_DescNames.Pure)  (w : World)  :
    Calls Try.prog 3 #[] w fun e w' => e = .returned (.bool true) ∧ Below w.heap.size w w' := by
  obtain ⟨k, h⟩ := P  
  refine (twoslotlaw15_DescNames.calls k  true w h).mono ?_
  rintro e w' ⟨rfl, hd⟩
  exact ⟨rfl, hd⟩

end Go.Proofs.Ytdpllcmpndcbnaa.P
