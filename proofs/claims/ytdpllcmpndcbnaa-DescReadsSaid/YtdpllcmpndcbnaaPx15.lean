-- Written by a program of this session, after the kit's print.
import Derived.Test.YtdpllcmpndcbnaaPx0
import Derived.Test.YtdpllcmpndcbnaaP0Short
import Derived.Test.YtdpllcmpndcbnaaPx9
import Derived.Test.YtdpllcmpndcbnaaPx11
import Derived.Test.YtdpllcmpndcbnaaPx12
import Derived.Test.YtdpllcmpndcbnaaPx14
namespace Go.Proofs.Ytdpllcmpndcbnaa.P
open Go.RowKit Go.Proofs.YtdpllcmpndcbnaaW.PrintWords Go.Proofs.YtdpllcmpndcbnaaW.PrintLast Go.Proofs.YtdpllcmpndcbnaaW.PrintMore
attribute [local go_sem] max2_int min2_int max_two min_two max_three min_three max_four min_four   -- for this text's walks alone
set_option linter.unusedVariables false
set_option linter.unusedSimpArgs false

def twoslotref15_Parse.f (k : Nat) (a0_0 : Int) (a0_1 : Int) (a0_2 : Int) (a0_3 : Int) (l1 : List Int) : Option (Int × Int × (List (S27)) × Int) := (twoslotref06_May.f a0_0 a0_1 a0_2 a0_3).bind fun t501 => (if t501 = true then ((twoslotref06_W.f a0_0 a0_1 a0_2 a0_3).bind fun t502 => (if (l1.length : Int) = t502 then (if 4 ≤ (l1.length : Int) then ((twoslotref15_worth.f k (l1.take 4)).bind fun t504 => (if 4 < (l1.length : Int) then (if 5 ≤ 7 then (if 7 ≤ (l1.length : Int) then ((twoslotref15_worth.f k ((l1.take 7).drop 5)).bind fun t508 => ((twoslotref06_D.f a0_0 a0_1 a0_2 a0_3).bind fun t509 => (if t508 > t509 then (some (0, 0, ([] : List (S27)), 150)) else ((twoslotref15_read.f k (l1.drop 7) t508).bind fun t511 => ((twoslotref15_May.f k a0_0 a0_1 a0_2 a0_3 t504 (wrap64 (rd l1 4)) t511).bind fun t514 => (if t514 = true then ((twoslotref15_Made.f k a0_0 a0_1 a0_2 a0_3 t504 (wrap64 (rd l1 4)) t511).bind fun t515 => (if (strOfNums t515).toList = (strOfNums l1).toList then (some (t504, wrap64 (rd l1 4), t511, 0)) else (some (0, 0, ([] : List (S27)), 150)))) else (some (0, 0, ([] : List (S27)), 150)))))))) else (none)) else (none)) else (none))) else (none)) else (some (0, 0, ([] : List (S27)), 20)))) else (some (0, 0, ([] : List (S27)), 2)))
def twoslotref15_Parse.T5 : Bool × List (List Nat × List Nat) := (true, [([], []), ([0], [0]), ([1], [1]), ([], []), ([3], [3]), ([4], [4]), ([5], [5]), ([2, 6], [2, 6]), ([], []), ([8, 7, 2, 0, 1, 2, 3, 4, 5, 6, 7, 8], [7, 8])])
def twoslotref15_Parse.B5 : List Nat := [0, 1, 3, 0, 8, 24, 56, 127, 0, 511]
theorem twoslotref15_Parse.tab5 : rtab .any (opsOf Try.f22 5) = twoslotref15_Parse.T5 := by kernel_rfl
theorem twoslotref15_Parse.bits5 : waitsOk twoslotref15_Parse.T5.2 twoslotref15_Parse.B5 = true := by kernel_rfl
def twoslotref15_Parse.T10 : Bool × List (List Nat × List Nat) := (true, [([], []), ([], []), ([0, 1], [0, 1]), ([2], [2]), ([3, 2], [3]), ([4], [4]), ([4], [4]), ([5, 6, 4, 4], [4, 5, 6]), ([7, 4], [4, 7]), ([4], [4]), ([9, 4], [4, 9]), ([8, 10, 4], [4, 8, 10]), ([4, 11], [4, 11])])
def twoslotref15_Parse.B10 : List Nat := [0, 0, 3, 7, 15, 31, 31, 127, 255, 31, 543, 2047, 4095]
theorem twoslotref15_Parse.tab10 : rtab .any (opsOf Try.f22 10) = twoslotref15_Parse.T10 := by kernel_rfl
theorem twoslotref15_Parse.bits10 : waitsOk twoslotref15_Parse.T10.2 twoslotref15_Parse.B10 = true := by kernel_rfl
set_option maxHeartbeats 8000000 in
set_option maxRecDepth 100000 in
theorem twoslotref15_Parse.calls (k : Nat) (a0_0 : Int) (a0_1 : Int) (a0_2 : Int) (a0_3 : Int) (A1 : Option Addr) (c1 : Nat) (l1 : List Int) (r1 : Int) (r2 : Int) (r3 : List (S27)) (r4 : Int) (w : World) (hr1 : Kd.C (Kd.int .u8) w A1 l1.length l1) (hc1 : l1.length ≤ c1) (h : twoslotref15_Parse.f k a0_0 a0_1 a0_2 a0_3 l1 = some (r1, r2, r3, r4)) :
    Calls Try.prog 22 #[.agg #[.int .i64 a0_0, .int .i64 a0_1, .int .i64 a0_2, .int .i64 a0_3], .slice A1 l1.length c1] w fun e w' => ∃ v2_ : Value, e = .returned (.tuple #[.agg #[.int .i64 r1, .int .i64 r2, v2_], .int .i64 r4]) ∧ Kd.R k27 27 w' w.heap.size (fun _ => True) v2_ r3 ∧ Below w.heap.size w w' := by
  have hu24 := Try.underlying24
  have hu35 := Try.underlying35
  have HR1 := Aside0.mk hr1
  have HC1 := Aside0.mk hc1
  clear hr1 hc1
  have HB := Aside0.mk (Below.refl w.heap.size w)
  have H : ((twoslotref06_May.f a0_0 a0_1 a0_2 a0_3).bind fun t501 => (if t501 = true then ((twoslotref06_W.f a0_0 a0_1 a0_2 a0_3).bind fun t502 => (if (l1.length : Int) = t502 then (if 4 ≤ (l1.length : Int) then ((twoslotref15_worth.f k (l1.take 4)).bind fun t504 => (if 4 < (l1.length : Int) then (if 5 ≤ 7 then (if 7 ≤ (l1.length : Int) then ((twoslotref15_worth.f k ((l1.take 7).drop 5)).bind fun t508 => ((twoslotref06_D.f a0_0 a0_1 a0_2 a0_3).bind fun t509 => (if t508 > t509 then (some (0, 0, ([] : List (S27)), 150)) else ((twoslotref15_read.f k (l1.drop 7) t508).bind fun t511 => ((twoslotref15_May.f k a0_0 a0_1 a0_2 a0_3 t504 (wrap64 (rd l1 4)) t511).bind fun t514 => (if t514 = true then ((twoslotref15_Made.f k a0_0 a0_1 a0_2 a0_3 t504 (wrap64 (rd l1 4)) t511).bind fun t515 => (if (strOfNums t515).toList = (strOfNums l1).toList then (some (t504, wrap64 (rd l1 4), t511, 0)) else (some (0, 0, ([] : List (S27)), 150)))) else (some (0, 0, ([] : List (S27)), 150)))))))) else (none)) else (none)) else (none))) else (none)) else (some (0, 0, ([] : List (S27)), 20)))) else (some (0, 0, ([] : List (S27)), 2)))) = some (r1, r2, r3, r4) := h
  clear h
  replace H := Option.bind_eq_some_iff.mp H
  obtain ⟨t501, A30, H⟩ := H
  try dsimp only at H
  have A3 := Aside0.mk A30
  clear A30
  by_cases c4 : t501 = true
  · subst c4
    have H1 : ((twoslotref06_W.f a0_0 a0_1 a0_2 a0_3).bind fun t502 => (if (l1.length : Int) = t502 then (if 4 ≤ (l1.length : Int) then ((twoslotref15_worth.f k (l1.take 4)).bind fun t504 => (if 4 < (l1.length : Int) then (if 5 ≤ 7 then (if 7 ≤ (l1.length : Int) then ((twoslotref15_worth.f k ((l1.take 7).drop 5)).bind fun t508 => ((twoslotref06_D.f a0_0 a0_1 a0_2 a0_3).bind fun t509 => (if t508 > t509 then (some (0, 0, ([] : List (S27)), 150)) else ((twoslotref15_read.f k (l1.drop 7) t508).bind fun t511 => ((twoslotref15_May.f k a0_0 a0_1 a0_2 a0_3 t504 (wrap64 (rd l1 4)) t511).bind fun t514 => (if t514 = true then ((twoslotref15_Made.f k a0_0 a0_1 a0_2 a0_3 t504 (wrap64 (rd l1 4)) t511).bind fun t515 => (if (strOfNums t515).toList = (strOfNums l1).toList then (some (t504, wrap64 (rd l1 4), t511, 0)) else (some (0, 0, ([] : List (S27)), 150)))) else (some (0, 0, ([] : List (S27)), 150)))))))) else (none)) else (none)) else (none))) else (none)) else (some (0, 0, ([] : List (S27)), 20)))) = some (r1, r2, r3, r4) := by rw [if_pos rfl] at H; exact H
    clear H
    have H := H1
    clear H1
    replace H := Option.bind_eq_some_iff.mp H
    obtain ⟨t502, A50, H⟩ := H
    try dsimp only at H
    have A5 := Aside0.mk A50
    clear A50
    by_cases c6 : (l1.length : Int) = t502
    · rw [if_pos c6] at H
      have c6b0 : ((l1.length : Int) == t502) = true := beq_iff_eq.mpr c6
      have c6b1 : ((l1.length : Int) != t502) = false := bne_eq_false_iff_eq.mpr c6
      clear c6
      by_cases c7 : 4 ≤ (l1.length : Int)
      · rw [if_pos c7] at H
        have c7b0 := eq_true c7
        have c7b1 : decide (4 ≤ (l1.length : Int)) = true := decide_eq_true c7
        clear c7
        replace H := Option.bind_eq_some_iff.mp H
        obtain ⟨t504, A80, H⟩ := H
        try dsimp only at H
        have A8 := Aside0.mk A80
        clear A80
        by_cases c9 : 4 < (l1.length : Int)
        · rw [if_pos c9] at H
          have c9b0 : decide (4 < (l1.length : Int)) = true := decide_eq_true c9
          have c9b1 : decide (4 < l1.length) = true := decide_eq_true (by omega)
          clear c9
          by_cases c10 : 5 ≤ 7
          · rw [if_pos c10] at H
            have c10b0 := eq_true c10
            have c10b1 : decide (5 ≤ 7) = true := decide_eq_true c10
            clear c10
            by_cases c11 : 7 ≤ (l1.length : Int)
            · rw [if_pos c11] at H
              have c11b0 := eq_true c11
              have c11b1 : decide (7 ≤ (l1.length : Int)) = true := decide_eq_true c11
              clear c11
              replace H := Option.bind_eq_some_iff.mp H
              obtain ⟨t508, A120, H⟩ := H
              try dsimp only at H
              have A12 := Aside0.mk A120
              clear A120
              replace H := Option.bind_eq_some_iff.mp H
              obtain ⟨t509, A130, H⟩ := H
              try dsimp only at H
              have A13 := Aside0.mk A130
              clear A130
              by_cases c14 : t508 > t509
              · rw [if_pos c14] at H
                have c14b0 : decide (t509 < t508) = true := decide_eq_true c14
                clear c14
                simp only [Option.some.injEq, Prod.mk.injEq] at H
                obtain ⟨rfl, rfl, rfl, rfl⟩ := H
                go_enter Try.func22, Try.ntmps22
                try go_wp2_with (first | ((with_reducible refine gate_dst (N := 2) rfl ?_); refine box_event rfl (N := 2) rfl (cs := #[.int .i64 a0_0, .int .i64 a0_1, .int .i64 a0_2, .int .i64 a0_3]) (t := 24) (by go_simp; try rfl) ?_; intro gb499 hg w15 hbox hb; have BK499 := Aside0.mk (hbox); have GW499 := Aside0.mk ((by rw [hg]; exact (sZ HB) : w.heap.size ≤ gb499)); have GE499 := Aside0.mk ((by rw [hg]; exact (sZ HB) : w.heap.size ≤ gb499)); replace HB := kH HB hb; clear hb hbox hg) | ((with_reducible refine gate_dst (N := 4) rfl ?_); refine box_event rfl (N := 4) rfl (cs := #[.int .i64 0, .int .i64 0, .slice none 0 0]) (t := 35) (by go_simp; try rfl) ?_; intro gb500 hg w16 hbox hb; have BK500 := Aside0.mk (hbox); have GW500 := Aside0.mk ((by rw [hg]; exact (below_size (by repeat (first | exact sH HB.out | refine sN (w := w) ?_ | with_reducible refine sG (w := w) ?_ (by assumption)))) : w.heap.size ≤ gb500)); have GE500 := Aside0.mk ((by rw [hg]; exact (below_size (by repeat (first | exact sH HB.out | refine sN (w := w) ?_ | with_reducible refine sG (w := w) ?_ (by assumption)))) : w.heap.size ≤ gb500)); replace HB := Aside0.mk (below_step (by repeat (first | exact sH HB.out | refine sN (w := w) ?_ | with_reducible refine sG (w := w) ?_ (by assumption))) hb); have NB499_500 := Aside0.mk ((by rw [hg]; exact Nat.ne_of_lt (blk_lt (g := gb499) (o := .cells #[.int .i64 a0_0, .int .i64 a0_1, .int .i64 a0_2, .int .i64 a0_3] 24 (0, 0)) (by first | exact BK499.out | (refine sO ?_; exact BK499.out))) : gb499 ≠ gb500)); have NB500_499 := Aside0.mk ((by rw [hg]; exact Nat.ne_of_gt (blk_lt (g := gb499) (o := .cells #[.int .i64 a0_0, .int .i64 a0_1, .int .i64 a0_2, .int .i64 a0_3] 24 (0, 0)) (by first | exact BK499.out | (refine sO ?_; exact BK499.out))) : gb500 ≠ gb499)); replace BK499 := kB BK499 hb; clear hb hbox hg; have hnb17 := NB499_500.out; have hnc17 := NB500_499.out; obtain ⟨hcz18_0, hcz18_1, hcz18_2, hcz18_3, hfz18_0, hfz18_1, hfz18_2, hfz18_3⟩ := cs4 BK499.out) | ((with_reducible refine gate_callee (f := 41) rfl ?_); refine goesL_ (some 9) rfl rfl Try.func41 (by kernel_rfl) rfl #[.agg #[.int .i64 a0_0, .int .i64 a0_1, .int .i64 a0_2, .int .i64 a0_3]] rfl (by (try simp only [sM]); first | done | rfl | (simp only [sT]; rfl)) ?_; (with_reducible refine (twoslotref06_May.calls a0_0 a0_1 a0_2 a0_3 true _ A3.out).mono ?_); rintro e w19 ⟨rfl, hb⟩; refine ⟨_, rfl, ?_⟩; replace BK499 := kB BK499 hb; replace BK500 := kB BK500 hb; replace HB := Aside0.mk (below_step (by repeat (first | exact sH HB.out | refine sN (w := w) ?_ | with_reducible refine sG (w := w) ?_ (by assumption))) hb); (try clear hb); (try clear hb2); (try clear hk); (try clear hi); obtain ⟨hcz20_0, hcz20_1, hcz20_2, hcz20_3, hfz20_0, hfz20_1, hfz20_2, hfz20_3⟩ := cs4 BK499.out) | ((with_reducible refine gate_callee (f := 47) rfl ?_); refine goesL_ (some 15) rfl rfl Try.func47 (by kernel_rfl) rfl #[.agg #[.int .i64 a0_0, .int .i64 a0_1, .int .i64 a0_2, .int .i64 a0_3]] rfl (by (try simp only [sM]); first | done | rfl | (simp only [sT]; rfl)) ?_; (with_reducible refine (twoslotref06_W.calls a0_0 a0_1 a0_2 a0_3 t502 _ A5.out).mono ?_); rintro e w21 ⟨rfl, hb⟩; refine ⟨_, rfl, ?_⟩; replace BK499 := kB BK499 hb; replace BK500 := kB BK500 hb; replace HB := Aside0.mk (below_step (by repeat (first | exact sH HB.out | refine sN (w := w) ?_ | with_reducible refine sG (w := w) ?_ (by assumption))) hb); (try clear hb); (try clear hb2); (try clear hk); (try clear hi)))
                replace BK499 := Aside0.mk (blk_drew BK499.out); replace BK500 := Aside0.mk (blk_drew BK500.out); replace HB := Aside0.mk (below_drew1 HB.out)
                obtain ⟨i023, hi023, _, hsz23, _⟩ := info_parts info5
                obtain ⟨hcut23, hA23, hC23⟩ := print_take_of (P := Try.prog) (Value.int .u8) 0 29 5 .i64 Try.underlying29 hi023 hsz23 A1 c1 l1 4 (by omega) (of_decide_eq_true (by first | (with_reducible assumption) | assumption)) HC1.out
                have HR503 := Aside0.mk (Kd.C_of_reads (h1 := fun _ => rfl) (hA23 _ (Kd.reads_of_C HR1.out)))
                have HC503 := Aside0.mk hC23
                clear hA23 hC23 hi023 hsz23
                have p505 : 0 ≤ (4 : Int) := (by omega)
                have q505 : 4 < (l1.length : Int) := of_decide_eq_true (by first | (with_reducible assumption) | assumption)
                obtain ⟨ad505, e505, hx505_0⟩ := Kd.at_int HR1.out 4 p505 q505
                have hw505_0 := hx505_0
                (try rw [show ((4 : Int)).toNat = 4 from rfl] at hw505_0)
                (try rw [show 4 * 1 = 4 from rfl] at hw505_0)
                (try simp only [Nat.reduceMul, Nat.reduceEqDiff, Go.Addr.add, ↓reduceIte] at hw505_0)
                cases e505
                (try simp only [show (4 : Int).toNat = 4 from rfl, Nat.reduceMul, Nat.reduceEqDiff, Go.Addr.add, ↓reduceIte] at hx505_0)
                have qi505 : (4 < l1.length) = True := eq_true (by omega)
                (try rw [show ((4 : Int)).toNat = 4 from rfl] at hx505_0)
                replace hx505_0 := (HB.out.cell (World.block_lt_of_cell? w _ hx505_0)).trans hx505_0
                replace p505 := eq_true p505
                replace q505 := eq_true q505
                refine start_ (n := 10) (S := fun w' => w'.cell? ⟨ad505.block, ad505.off + 4, none⟩ = some (.int .u8 (rd l1 4))) (ds := []) #[O, O, O, O, O, O, O, O, O, O] (by kernel_rfl) rfl rfl (((HB.out.cell (World.block_lt_of_cell? w _ hw505_0)).trans hw505_0)) (fun hHeld => ?_); refine with_tabW twoslotref15_Parse.tab5 twoslotref15_Parse.bits5 (fun HT_ HW_ => ?_)
                generalize w21.drew = w22 at BK499 BK500 HB HR503 hx505_0 hHeld ⊢
                refine pu (i := 0) (N := some 18) (v := ?_) (a' := ?_) #[X, O, O, O, O, O, O, O, O, O] rfl rfl HT_ (by kernel_rfl) (fun _ _ _ h => h) ⟨by rfl, ?_⟩ ?_ ?_
                rotate_left
                · intro w'; go_simp; with_reducible rfl
                rotate_left
                · simp only [sP]
                  rfl
                refine pu (i := 1) (N := some 19) (v := ?_) (a' := ?_) #[X, X, O, O, O, O, O, O, O, O] rfl rfl HT_ (by kernel_rfl) (fun _ _ _ h => h) ⟨by rfl, ?_⟩ ?_ ?_
                rotate_left
                · intro w'; go_simp; with_reducible rfl
                rotate_left
                · simp only [sP]
                  rfl
                refine pu (i := 3) (N := some 21) (v := ?_) (a' := ?_) #[X, X, O, X, O, O, O, O, O, O] rfl rfl HT_ (by kernel_rfl) (fun _ _ _ h => h) ⟨by rfl, ?_⟩ ?_ ?_
                rotate_left
                · intro w'; go_simp; with_reducible rfl
                rotate_left
                · simp only [sP]
                  rfl
                refine pu (i := 4) (N := some 22) (v := ?_) (a' := ?_) #[X, X, O, X, X, O, O, O, O, O] rfl rfl HT_ (by kernel_rfl) (fun _ _ _ h => h) ⟨by rfl, ?_⟩ ?_ ?_
                rotate_left
                · intro w'; go_simp; with_reducible rfl
                rotate_left
                · simp only [sP]
                  rfl
                refine tu (i := 5) (N := some 23) (v := ?_) (a' := ?_) #[X, X, O, X, X, X, O, O, O, O] rfl rfl HT_ HW_ (by kernel_rfl) (fun _ _ _ h => h) ⟨by rfl, ?_⟩ hHeld ?_ ?_
                rotate_left
                · intro w' s0
                  go_simp
                  with_reducible rfl
                rotate_left
                · simp only [sP]
                  rfl
                refine pu (i := 6) (N := some 24) (v := ?_) (a' := ?_) #[X, X, O, X, X, X, X, O, O, O] rfl rfl HT_ (by kernel_rfl) (fun _ _ _ h => h) ⟨by rfl, ?_⟩ ?_ ?_
                rotate_left
                · intro w'; go_simp; with_reducible rfl
                rotate_left
                · simp only [sP]
                  rfl
                refine join_ (σ := Nat) 1 #[X, X, X, X, X, X, X, X, X, O] (fun s_ => [(20, .int .i64 t504), (6, .pointer (some ⟨s_, 0, none⟩)), (25, .agg #[.int .i64 t504, .int .i64 (wrap64 (rd l1 4)), .slice none 0 0])]) (fun s_ w' => (w'.cell? ⟨ad505.block, ad505.off + 4, none⟩ = some (.int .u8 (rd l1 4))) ∧ (w'.heap[gb499]? = some (.cells #[.int .i64 a0_0, .int .i64 a0_1, .int .i64 a0_2, .int .i64 a0_3] 24 (0, 0))) ∧ (w'.heap[gb500]? = some (.cells #[.int .i64 0, .int .i64 0, .slice none 0 0] 35 (0, 0))) ∧ (w'.heap[s_]? = some (.cells #[.int .i64 0, .int .i64 0, .slice none 0 0] 35 (0, 0))) ∧ (w.heap.size ≤ s_) ∧ (w.heap.size ≤ s_) ∧ (gb499 ≠ s_) ∧ (s_ ≠ gb499) ∧ (gb500 ≠ s_) ∧ (s_ ≠ gb500) ∧ (Below w.heap.size w w')) ?_ ?_
                rotate_left
                · intro hCont
                  refine two_ (i := 2) (j := 8) (Ni := some 20) (Nj := some 6) #[X, X, X, X, X, X, X, O, O, O] #[X, X, O, X, X, X, X, O, X, O] rfl rfl rfl rfl (two_of HT_.out (by kernel_rfl)) (by decide) (by decide) (fun K hK => ?_) (fun K hK => ?_)
                  · skip
                    refine goes_ Try.func48 (by kernel_rfl) rfl #[.slice (some ad505) (l1.take 4).length c1] (by rfl) rfl rfl (by (try simp only [List.map_toArray, List.map_cons, List.map_nil]); first | done | (rw [show (l1.take 4).length = 4 from (by rw [List.length_take]; have h_ : (4 : Int) ≤ (l1.length : Int) := of_decide_eq_true (by first | (with_reducible assumption) | assumption); omega)] <;> rfl) | rfl | (simp only [List.length_drop, List.length_take]; rfl)) ?_
                    with_reducible refine (twoslotref15_worth.calls k _ _ (l1.take 4) t504 _ ?side1 ?side2 A8.out).mono ?_
                    (case side1 => exact sC (Kd.C_below HR503.out HB.out))
                    (case side2 => exact HC503.out)
                    rintro e w' ⟨rfl, ⟨nd, rfl⟩⟩
                    refine ⟨_, rfl, ?_⟩
                    refine hK.out _ _ (((HB.out.cell (World.block_lt_of_cell? w _ hw505_0)).trans hw505_0)) (fun hHeld => ?_)
                    clear hK K
                    refine norm_ (a' := ?_) ?_ ?_
                    rotate_left
                    · show Act.put _ (some 20) _ = _
                      simp only [sP]
                      rfl
                    refine pu (i := 7) (N := some 25) (v := ?_) (a' := ?_) #[X, X, X, X, X, X, X, X, O, O] rfl rfl HT_ (by kernel_rfl) (fun _ _ _ h => h) ⟨by rfl, ?_⟩ ?_ ?_
                    rotate_left
                    · intro w'; go_simp; with_reducible rfl
                    rotate_left
                    · simp only [sP]
                      rfl
                    refine one_ (i := 8) (N := some 6) #[X, X, X, X, X, X, X, X, X, O] rfl rfl (one_of HT_.out (by kernel_rfl)) (by decide) (fun K hK => ?_)
                    refine box_step ?hg (N := 6) ?hd (cs := #[.int .i64 0, .int .i64 0, .slice none 0 0]) (t := 35) ?hr ?_; (case hd => rfl); (case hg => rfl); (case hr => first | (go_simp; done) | (go_simp; rfl))
                    intro gb506 hg w24 hbox hb
                    have BK506 := Aside0.mk (hbox); have GW506 := Aside0.mk ((by rw [hg]; exact (below_size (by repeat (first | exact sH HB.out | refine sN (w := w) ?_ | with_reducible refine sG (w := w) ?_ (by assumption)))) : w.heap.size ≤ gb506)); have GE506 := Aside0.mk ((by rw [hg]; exact (below_size (by repeat (first | exact sH HB.out | refine sN (w := w) ?_ | with_reducible refine sG (w := w) ?_ (by assumption)))) : w.heap.size ≤ gb506)); replace HB := Aside0.mk (below_step (by repeat (first | exact sH HB.out | refine sN (w := w) ?_ | with_reducible refine sG (w := w) ?_ (by assumption))) hb); have NB499_506 := Aside0.mk ((by rw [hg]; exact Nat.ne_of_lt (blk_lt (g := gb499) (o := .cells #[.int .i64 a0_0, .int .i64 a0_1, .int .i64 a0_2, .int .i64 a0_3] 24 (0, 0)) (by first | exact BK499.out | (refine sO ?_; exact BK499.out))) : gb499 ≠ gb506)); have NB506_499 := Aside0.mk ((by rw [hg]; exact Nat.ne_of_gt (blk_lt (g := gb499) (o := .cells #[.int .i64 a0_0, .int .i64 a0_1, .int .i64 a0_2, .int .i64 a0_3] 24 (0, 0)) (by first | exact BK499.out | (refine sO ?_; exact BK499.out))) : gb506 ≠ gb499)); replace BK499 := kB BK499 hb; have NB500_506 := Aside0.mk ((by rw [hg]; exact Nat.ne_of_lt (blk_lt (g := gb500) (o := .cells #[.int .i64 0, .int .i64 0, .slice none 0 0] 35 (0, 0)) (by first | exact BK500.out | (refine sO ?_; exact BK500.out))) : gb500 ≠ gb506)); have NB506_500 := Aside0.mk ((by rw [hg]; exact Nat.ne_of_gt (blk_lt (g := gb500) (o := .cells #[.int .i64 0, .int .i64 0, .slice none 0 0] 35 (0, 0)) (by first | exact BK500.out | (refine sO ?_; exact BK500.out))) : gb506 ≠ gb500)); replace BK500 := kB BK500 hb
                    clear hb hbox hg
                    refine hK.out _ _ (((HB.out.cell (World.block_lt_of_cell? w _ hw505_0)).trans hw505_0)) (fun hHeld => ?_)
                    clear hK K
                    refine norm_ (a' := ?_) ?_ ?_
                    rotate_left
                    · show Act.put _ (some 6) _ = _
                      simp only [sP]
                      rfl
                    exact norm_ (by simp only [putAll, Act.put, List.setIfInBounds_toArray, List.set_cons_zero, List.set_cons_succ]) (hCont (gb506) _ ⟨hHeld, (by first | exact BK499.out | (refine sO ?_; exact BK499.out)), (by first | exact BK500.out | (refine sO ?_; exact BK500.out)), (by first | exact BK506.out | (refine sO ?_; exact BK506.out)), GW506.out, GE506.out, NB499_506.out, NB506_499.out, NB500_506.out, NB506_500.out, (by repeat (first | exact sH HB.out | refine sN (w := w) ?_ | with_reducible refine sG (w := w) ?_ (by assumption)))⟩)
                  · skip
                    refine box_step ?hg (N := 6) ?hd (cs := #[.int .i64 0, .int .i64 0, .slice none 0 0]) (t := 35) ?hr ?_; (case hd => rfl); (case hg => rfl); (case hr => first | (go_simp; done) | (go_simp; rfl))
                    intro gb506 hg w24 hbox hb
                    have BK506 := Aside0.mk (hbox); have GW506 := Aside0.mk ((by rw [hg]; exact (below_size (by repeat (first | exact sH HB.out | refine sN (w := w) ?_ | with_reducible refine sG (w := w) ?_ (by assumption)))) : w.heap.size ≤ gb506)); have GE506 := Aside0.mk ((by rw [hg]; exact (below_size (by repeat (first | exact sH HB.out | refine sN (w := w) ?_ | with_reducible refine sG (w := w) ?_ (by assumption)))) : w.heap.size ≤ gb506)); replace HB := Aside0.mk (below_step (by repeat (first | exact sH HB.out | refine sN (w := w) ?_ | with_reducible refine sG (w := w) ?_ (by assumption))) hb); have NB499_506 := Aside0.mk ((by rw [hg]; exact Nat.ne_of_lt (blk_lt (g := gb499) (o := .cells #[.int .i64 a0_0, .int .i64 a0_1, .int .i64 a0_2, .int .i64 a0_3] 24 (0, 0)) (by first | exact BK499.out | (refine sO ?_; exact BK499.out))) : gb499 ≠ gb506)); have NB506_499 := Aside0.mk ((by rw [hg]; exact Nat.ne_of_gt (blk_lt (g := gb499) (o := .cells #[.int .i64 a0_0, .int .i64 a0_1, .int .i64 a0_2, .int .i64 a0_3] 24 (0, 0)) (by first | exact BK499.out | (refine sO ?_; exact BK499.out))) : gb506 ≠ gb499)); replace BK499 := kB BK499 hb; have NB500_506 := Aside0.mk ((by rw [hg]; exact Nat.ne_of_lt (blk_lt (g := gb500) (o := .cells #[.int .i64 0, .int .i64 0, .slice none 0 0] 35 (0, 0)) (by first | exact BK500.out | (refine sO ?_; exact BK500.out))) : gb500 ≠ gb506)); have NB506_500 := Aside0.mk ((by rw [hg]; exact Nat.ne_of_gt (blk_lt (g := gb500) (o := .cells #[.int .i64 0, .int .i64 0, .slice none 0 0] 35 (0, 0)) (by first | exact BK500.out | (refine sO ?_; exact BK500.out))) : gb506 ≠ gb500)); replace BK500 := kB BK500 hb
                    clear hb hbox hg
                    refine hK.out _ _ (((HB.out.cell (World.block_lt_of_cell? w _ hw505_0)).trans hw505_0)) (fun hHeld => ?_)
                    clear hK K
                    refine norm_ (a' := ?_) ?_ ?_
                    rotate_left
                    · show Act.put _ (some 6) _ = _
                      simp only [sP]
                      rfl
                    refine one_ (i := 2) (N := some 20) #[X, X, X, X, X, X, X, O, X, O] rfl rfl (one_of HT_.out (by kernel_rfl)) (by decide) (fun K hK => ?_)
                    refine goes_ Try.func48 (by kernel_rfl) rfl #[.slice (some ad505) (l1.take 4).length c1] (by rfl) rfl rfl (by (try simp only [List.map_toArray, List.map_cons, List.map_nil]); first | done | (rw [show (l1.take 4).length = 4 from (by rw [List.length_take]; have h_ : (4 : Int) ≤ (l1.length : Int) := of_decide_eq_true (by first | (with_reducible assumption) | assumption); omega)] <;> rfl) | rfl | (simp only [List.length_drop, List.length_take]; rfl)) ?_
                    with_reducible refine (twoslotref15_worth.calls k _ _ (l1.take 4) t504 _ ?side1 ?side2 A8.out).mono ?_
                    (case side1 => exact sC (Kd.C_below HR503.out HB.out))
                    (case side2 => exact HC503.out)
                    rintro e w' ⟨rfl, ⟨nd, rfl⟩⟩
                    refine ⟨_, rfl, ?_⟩
                    refine hK.out _ _ (((HB.out.cell (World.block_lt_of_cell? w _ hw505_0)).trans hw505_0)) (fun hHeld => ?_)
                    clear hK K
                    refine norm_ (a' := ?_) ?_ ?_
                    rotate_left
                    · show Act.put _ (some 20) _ = _
                      simp only [sP]
                      rfl
                    refine pu (i := 7) (N := some 25) (v := ?_) (a' := ?_) #[X, X, X, X, X, X, X, X, X, O] rfl rfl HT_ (by kernel_rfl) (fun _ _ _ h => h) ⟨by rfl, ?_⟩ ?_ ?_
                    rotate_left
                    · intro w'; go_simp; with_reducible rfl
                    rotate_left
                    · simp only [sP]
                      rfl
                    exact norm_ (by simp only [putAll, Act.put, List.setIfInBounds_toArray, List.set_cons_zero, List.set_cons_succ]) (hCont (gb506) _ ⟨hHeld, (by first | exact BK499.out | (refine sO ?_; exact BK499.out)), (by first | exact BK500.out | (refine sO ?_; exact BK500.out)), (by first | exact BK506.out | (refine sO ?_; exact BK506.out)), GW506.out, GE506.out, NB499_506.out, NB506_499.out, NB500_506.out, NB506_500.out, (by repeat (first | exact sH HB.out | refine sN (w := w) ?_ | with_reducible refine sG (w := w) ?_ (by assumption)))⟩)
                rintro gb506 w25 ⟨hS_, h0_, h1_, h2_, h3_, h4_, h5_, h6_, h7_, h8_, h9_⟩
                have n0_ : Aside0 (w25.heap[gb499]? = some (.cells #[.int .i64 a0_0, .int .i64 a0_1, .int .i64 a0_2, .int .i64 a0_3] 24 (0, 0))) := ⟨h0_⟩
                have n1_ : Aside0 (w25.heap[gb500]? = some (.cells #[.int .i64 0, .int .i64 0, .slice none 0 0] 35 (0, 0))) := ⟨h1_⟩
                have n2_ : Aside0 (w25.heap[gb506]? = some (.cells #[.int .i64 0, .int .i64 0, .slice none 0 0] 35 (0, 0))) := ⟨h2_⟩
                have n3_ : Aside0 (w.heap.size ≤ gb506) := ⟨h3_⟩
                have n4_ : Aside0 (w.heap.size ≤ gb506) := ⟨h4_⟩
                have n5_ : Aside0 (gb499 ≠ gb506) := ⟨h5_⟩
                have n6_ : Aside0 (gb506 ≠ gb499) := ⟨h6_⟩
                have n7_ : Aside0 (gb500 ≠ gb506) := ⟨h7_⟩
                have n8_ : Aside0 (gb506 ≠ gb500) := ⟨h8_⟩
                have n9_ : Aside0 (Below w.heap.size w w25) := ⟨h9_⟩
                clear BK499; clear BK500; clear HB
                clear h0_ h1_ h2_ h3_ h4_ h5_ h6_ h7_ h8_ h9_
                have BK499 := n0_; have BK500 := n1_; have BK506 := n2_; have GW506 := n3_; have GE506 := n4_; have NB499_506 := n5_; have NB506_499 := n6_; have NB500_506 := n7_; have NB506_500 := n8_; have HB := n9_; clear n0_ n1_ n2_ n3_ n4_ n5_ n6_ n7_ n8_ n9_
                have hHeld : w25.cell? ⟨ad505.block, ad505.off + 4, none⟩ = some (.int .u8 (rd l1 4)) := hS_
                refine norm_ (a' := ?_) ?_ ?_
                rotate_left
                · simp only [putAll, Act.put, List.setIfInBounds_toArray, List.set_cons_zero, List.set_cons_succ]
                  rfl
                refine one_ (i := 9) (N := none) #[X, X, X, X, X, X, X, X, X, X] rfl rfl (one_of HT_.out (by kernel_rfl)) (by decide) (fun K hK => ?_)
                have hs26 : w25.cell? ⟨gb506, 0, none⟩ = some (.int .i64 0) := (blk_cell BK506.out 0).trans rfl
                have hfs26 := blk_frozen BK506.out 0
                have hns26_0 := NB499_506.out
                have hns26_1 := NB500_506.out
                have hms26_0 := NB506_499.out
                have hms26_1 := NB506_500.out
                have hs27 : w25.cell? ⟨gb506, 1, none⟩ = some (.int .i64 0) := (blk_cell BK506.out 1).trans rfl
                have hfs27 := blk_frozen BK506.out 1
                have hns27_0 := NB499_506.out
                have hns27_1 := NB500_506.out
                have hms27_0 := NB506_499.out
                have hms27_1 := NB506_500.out
                have hs28 : w25.cell? ⟨gb506, 2, none⟩ = some (.slice none 0 0) := (blk_cell BK506.out 2).trans rfl
                have hfs28 := blk_frozen BK506.out 2
                have hns28_0 := NB499_506.out
                have hns28_1 := NB500_506.out
                have hms28_0 := NB506_499.out
                have hms28_1 := NB506_500.out
                refine skip_ (w1 := ?_) (by rfl) rfl ?_ ?_
                rotate_left
                · go_simp
                  rfl
                refine hK.out _ _ (((cell_far (p := ⟨gb506, _, none⟩) (by first | exact Nat.ne_of_lt (Nat.lt_of_lt_of_le (by have := World.block_lt_of_cell? _ _ hw505_0; first | rwa [add_block] at this | exact this) GW506.out) | (rw [add_block]; exact Nat.ne_of_lt (Nat.lt_of_lt_of_le (by have := World.block_lt_of_cell? _ _ hw505_0; first | rwa [add_block] at this | exact this) GW506.out)) | (show (Addr.add _ _).block ≠ _; rw [add_block]; exact Nat.ne_of_lt (Nat.lt_of_lt_of_le (by have := World.block_lt_of_cell? _ _ hw505_0; first | rwa [add_block] at this | exact this) GW506.out)) | (dsimp only; exact Nat.ne_of_lt (Nat.lt_of_lt_of_le (by have := World.block_lt_of_cell? _ _ hw505_0; first | rwa [add_block] at this | exact this) GW506.out))) _).trans (((cell_far (p := ⟨gb506, _, none⟩) (by first | exact Nat.ne_of_lt (Nat.lt_of_lt_of_le (by have := World.block_lt_of_cell? _ _ hw505_0; first | rwa [add_block] at this | exact this) GW506.out) | (rw [add_block]; exact Nat.ne_of_lt (Nat.lt_of_lt_of_le (by have := World.block_lt_of_cell? _ _ hw505_0; first | rwa [add_block] at this | exact this) GW506.out)) | (show (Addr.add _ _).block ≠ _; rw [add_block]; exact Nat.ne_of_lt (Nat.lt_of_lt_of_le (by have := World.block_lt_of_cell? _ _ hw505_0; first | rwa [add_block] at this | exact this) GW506.out)) | (dsimp only; exact Nat.ne_of_lt (Nat.lt_of_lt_of_le (by have := World.block_lt_of_cell? _ _ hw505_0; first | rwa [add_block] at this | exact this) GW506.out))) _).trans (((cell_far (p := ⟨gb506, _, none⟩) (by first | exact Nat.ne_of_lt (Nat.lt_of_lt_of_le (by have := World.block_lt_of_cell? _ _ hw505_0; first | rwa [add_block] at this | exact this) GW506.out) | (rw [add_block]; exact Nat.ne_of_lt (Nat.lt_of_lt_of_le (by have := World.block_lt_of_cell? _ _ hw505_0; first | rwa [add_block] at this | exact this) GW506.out)) | (show (Addr.add _ _).block ≠ _; rw [add_block]; exact Nat.ne_of_lt (Nat.lt_of_lt_of_le (by have := World.block_lt_of_cell? _ _ hw505_0; first | rwa [add_block] at this | exact this) GW506.out)) | (dsimp only; exact Nat.ne_of_lt (Nat.lt_of_lt_of_le (by have := World.block_lt_of_cell? _ _ hw505_0; first | rwa [add_block] at this | exact this) GW506.out))) _).trans (hHeld))))))) (fun hHeld => ?_)
                clear hK K
                refine done_ (done_of HT_.out (by kernel_rfl)) ?_
                obtain ⟨i029, hi029, _, hsz29, _⟩ := info_parts info5
                obtain ⟨A29, hcut29, hA29, hC29⟩ := print_mid_of (P := Try.prog) (Value.int .u8) 0 29 5 .i64 .i64 Try.underlying29 hi029 hsz29 (some ad505) c1 l1 5 7 (by omega) (by first | omega | exact of_decide_eq_true (by first | (with_reducible assumption) | assumption)) (of_decide_eq_true (by first | (with_reducible assumption) | assumption)) HC1.out
                have HR507 := Aside0.mk (Kd.C_of_reads (h1 := fun _ => rfl) (hA29 _ (Kd.reads_of_C HR1.out)))
                have HC507 := Aside0.mk hC29
                clear hA29 hC29 hi029 hsz29
                try go_wp2_with (first | ((with_reducible refine gate_callee (f := 48) rfl ?_); refine goesL_ (some 28) rfl rfl Try.func48 (by kernel_rfl) rfl #[.slice A29 ((l1.take 7).drop 5).length (c1 - 5)] rfl (by (try simp only [List.map_toArray, List.map_cons, List.map_nil]); first | done | (rw [show ((l1.take 7).drop 5).length = (7 - 5) from (by rw [List.length_drop, List.length_take]; have h_ : (7 : Int) ≤ (l1.length : Int) := of_decide_eq_true (by first | (with_reducible assumption) | assumption); omega)] <;> rfl) | rfl | (simp only [List.length_drop, List.length_take]; rfl)) ?_; (with_reducible refine (twoslotref15_worth.calls k _ _ ((l1.take 7).drop 5) t508 _ ?side1 ?side2 A12.out).mono ?_); (case side1 => exact Kd.C_below HR507.out (by repeat (first | exact sH HB.out | refine sN (w := w) ?_ | with_reducible refine sG (w := w) ?_ (by assumption)))); (case side2 => exact HC507.out); rintro e w' ⟨rfl, ⟨nd, rfl⟩⟩; refine ⟨_, rfl, ?_⟩; have hnb30 := NB499_506.out; have hnc30 := NB506_499.out; obtain ⟨hcz31_0, hcz31_1, hcz31_2, hcz31_3, hfz31_0, hfz31_1, hfz31_2, hfz31_3⟩ := cs4 BK499.out) | ((with_reducible refine gate_callee (f := 49) rfl ?_); refine goesL_ (some 31) rfl rfl Try.func49 (by kernel_rfl) rfl #[.agg #[.int .i64 a0_0, .int .i64 a0_1, .int .i64 a0_2, .int .i64 a0_3]] rfl (by (try simp only [sM]); first | done | rfl | (simp only [sT]; rfl)) ?_; (with_reducible refine (twoslotref06_D.calls a0_0 a0_1 a0_2 a0_3 t509 _ A13.out).mono ?_); rintro e w32 ⟨rfl, hb⟩; refine ⟨_, rfl, ?_⟩; replace BK499 := Aside0.mk (blk_below (g := gb499) (o := .cells #[.int .i64 a0_0, .int .i64 a0_1, .int .i64 a0_2, .int .i64 a0_3] 24 (0, 0)) (by (try refine sO ?_); refine blk_far ?_ NB499_506.out _; (try refine sO ?_); refine blk_far ?_ NB499_506.out _; (try refine sO ?_); refine blk_far ?_ NB499_506.out _; first | exact BK499.out | (refine sO ?_; exact BK499.out)) hb); replace BK500 := Aside0.mk (blk_below (g := gb500) (o := .cells #[.int .i64 0, .int .i64 0, .slice none 0 0] 35 (0, 0)) (by (try refine sO ?_); refine blk_far ?_ NB500_506.out _; (try refine sO ?_); refine blk_far ?_ NB500_506.out _; (try refine sO ?_); refine blk_far ?_ NB500_506.out _; first | exact BK500.out | (refine sO ?_; exact BK500.out)) hb); replace BK506 := Aside0.mk (blk_below (g := gb506) (o := .cells #[.int .i64 t504, .int .i64 (wrap64 (rd l1 4)), .slice none 0 0] 35 (0, 0)) (by (try refine sO ?_); refine blk_put (cs := #[.int .i64 t504, .int .i64 (wrap64 (rd l1 4)), .slice none 0 0]) ?_ 2 _ rfl; (try refine sO ?_); refine blk_put (cs := #[.int .i64 t504, .int .i64 0, .slice none 0 0]) ?_ 1 _ rfl; (try refine sO ?_); refine blk_put (cs := #[.int .i64 0, .int .i64 0, .slice none 0 0]) ?_ 0 _ rfl; first | exact BK506.out | (refine sO ?_; exact BK506.out)) hb); replace HB := Aside0.mk (below_step (by repeat (first | exact sH HB.out | refine sN (w := w) ?_ | with_reducible refine sG (w := w) ?_ (by assumption))) hb); (try clear hb); (try clear hb2); (try clear hk); (try clear hi); have hnb33 := NB500_506.out; have hnc33 := NB506_500.out; obtain ⟨hcz34_0, hcz34_1, hcz34_2, hfz34_0, hfz34_1, hfz34_2⟩ := cs3 BK500.out))
                refine bodyPost_ret (results_ct rfl _ _ gb500 35 #[.int .i64 0, .int .i64 0, .slice none 0 0] (0, 0) _ rfl (by (try refine sO ?_); refine blk_put (cs := #[.int .i64 0, .int .i64 0, .slice none 0 0]) ?_ 2 _ rfl; (try refine sO ?_); refine blk_put (cs := #[.int .i64 0, .int .i64 0, .slice none 0 0]) ?_ 1 _ rfl; (try refine sO ?_); refine blk_put (cs := #[.int .i64 0, .int .i64 0, .slice none 0 0]) ?_ 0 _ rfl; first | exact BK500.out | (refine sO ?_; exact BK500.out)) Try.underlying35 rfl (by kernel_rfl)) rfl ?_
                exact ⟨_, by first | rfl | (simp [errW_none, errW_some] <;> rfl) | (simp [*, errW_none, errW_some] <;> rfl), by first | exact Kd.R_nil _ _ _ _ _ | exact Kd.N_nil _ _ _ _ _ | exact Kd.V_nil _ _ _ _ _ | exact Kd.Q_nil _ _ _ _ _ | exact Kd.S_nil _ _ _ _ _, by repeat (first | exact sH HB.out | refine sN (w := w) ?_ | with_reducible refine sG (w := w) ?_ (by assumption))⟩
              · rw [if_neg c14] at H
                have c14b0 : decide (t509 < t508) = false := decide_eq_false c14
                clear c14
                have c35b0 := eq_true (of_decide_eq_true (by first | (with_reducible assumption) | assumption) : 7 ≤ (l1.length : Int))
                replace H := Option.bind_eq_some_iff.mp H
                obtain ⟨t511, A360, H⟩ := H
                try dsimp only at H
                have A36 := Aside0.mk A360
                clear A360
                replace H := Option.bind_eq_some_iff.mp H
                obtain ⟨t514, A370, H⟩ := H
                try dsimp only at H
                have A37 := Aside0.mk A370
                clear A370
                by_cases c38 : t514 = true
                · subst c38
                  have H1 : ((twoslotref15_Made.f k a0_0 a0_1 a0_2 a0_3 t504 (wrap64 (rd l1 4)) t511).bind fun t515 => (if (strOfNums t515).toList = (strOfNums l1).toList then (some (t504, wrap64 (rd l1 4), t511, 0)) else (some (0, 0, ([] : List (S27)), 150)))) = some (r1, r2, r3, r4) := by rw [if_pos rfl] at H; exact H
                  clear H
                  have H := H1
                  clear H1
                  replace H := Option.bind_eq_some_iff.mp H
                  obtain ⟨t515, A390, H⟩ := H
                  try dsimp only at H
                  have A39 := Aside0.mk A390
                  clear A390
                  by_cases c40 : (strOfNums t515).toList = (strOfNums l1).toList
                  · rw [if_pos c40] at H
                    have c40b0 : ((strOfNums t515).toList == (strOfNums l1).toList) = true := beq_iff_eq.mpr c40
                    have c40b1 : ((strOfNums t515).toList != (strOfNums l1).toList) = false := bne_eq_false_iff_eq.mpr c40
                    clear c40
                    simp only [Option.some.injEq, Prod.mk.injEq] at H
                    obtain ⟨rfl, rfl, rfl, rfl⟩ := H
                    go_enter Try.func22, Try.ntmps22
                    try go_wp2_with (first | ((with_reducible refine gate_dst (N := 2) rfl ?_); refine box_event rfl (N := 2) rfl (cs := #[.int .i64 a0_0, .int .i64 a0_1, .int .i64 a0_2, .int .i64 a0_3]) (t := 24) (by go_simp; try rfl) ?_; intro gb499 hg w41 hbox hb; have BK499 := Aside0.mk (hbox); have GW499 := Aside0.mk ((by rw [hg]; exact (sZ HB) : w.heap.size ≤ gb499)); have GE499 := Aside0.mk ((by rw [hg]; exact (sZ HB) : w.heap.size ≤ gb499)); replace HB := kH HB hb; clear hb hbox hg) | ((with_reducible refine gate_dst (N := 4) rfl ?_); refine box_event rfl (N := 4) rfl (cs := #[.int .i64 0, .int .i64 0, .slice none 0 0]) (t := 35) (by go_simp; try rfl) ?_; intro gb500 hg w42 hbox hb; have BK500 := Aside0.mk (hbox); have GW500 := Aside0.mk ((by rw [hg]; exact (below_size (by repeat (first | exact sH HB.out | refine sN (w := w) ?_ | with_reducible refine sG (w := w) ?_ (by assumption)))) : w.heap.size ≤ gb500)); have GE500 := Aside0.mk ((by rw [hg]; exact (below_size (by repeat (first | exact sH HB.out | refine sN (w := w) ?_ | with_reducible refine sG (w := w) ?_ (by assumption)))) : w.heap.size ≤ gb500)); replace HB := Aside0.mk (below_step (by repeat (first | exact sH HB.out | refine sN (w := w) ?_ | with_reducible refine sG (w := w) ?_ (by assumption))) hb); have NB499_500 := Aside0.mk ((by rw [hg]; exact Nat.ne_of_lt (blk_lt (g := gb499) (o := .cells #[.int .i64 a0_0, .int .i64 a0_1, .int .i64 a0_2, .int .i64 a0_3] 24 (0, 0)) (by first | exact BK499.out | (refine sO ?_; exact BK499.out))) : gb499 ≠ gb500)); have NB500_499 := Aside0.mk ((by rw [hg]; exact Nat.ne_of_gt (blk_lt (g := gb499) (o := .cells #[.int .i64 a0_0, .int .i64 a0_1, .int .i64 a0_2, .int .i64 a0_3] 24 (0, 0)) (by first | exact BK499.out | (refine sO ?_; exact BK499.out))) : gb500 ≠ gb499)); replace BK499 := kB BK499 hb; clear hb hbox hg; have hnb43 := NB499_500.out; have hnc43 := NB500_499.out; obtain ⟨hcz44_0, hcz44_1, hcz44_2, hcz44_3, hfz44_0, hfz44_1, hfz44_2, hfz44_3⟩ := cs4 BK499.out) | ((with_reducible refine gate_callee (f := 41) rfl ?_); refine goesL_ (some 9) rfl rfl Try.func41 (by kernel_rfl) rfl #[.agg #[.int .i64 a0_0, .int .i64 a0_1, .int .i64 a0_2, .int .i64 a0_3]] rfl (by (try simp only [sM]); first | done | rfl | (simp only [sT]; rfl)) ?_; (with_reducible refine (twoslotref06_May.calls a0_0 a0_1 a0_2 a0_3 true _ A3.out).mono ?_); rintro e w45 ⟨rfl, hb⟩; refine ⟨_, rfl, ?_⟩; replace BK499 := kB BK499 hb; replace BK500 := kB BK500 hb; replace HB := Aside0.mk (below_step (by repeat (first | exact sH HB.out | refine sN (w := w) ?_ | with_reducible refine sG (w := w) ?_ (by assumption))) hb); (try clear hb); (try clear hb2); (try clear hk); (try clear hi); obtain ⟨hcz46_0, hcz46_1, hcz46_2, hcz46_3, hfz46_0, hfz46_1, hfz46_2, hfz46_3⟩ := cs4 BK499.out) | ((with_reducible refine gate_callee (f := 47) rfl ?_); refine goesL_ (some 15) rfl rfl Try.func47 (by kernel_rfl) rfl #[.agg #[.int .i64 a0_0, .int .i64 a0_1, .int .i64 a0_2, .int .i64 a0_3]] rfl (by (try simp only [sM]); first | done | rfl | (simp only [sT]; rfl)) ?_; (with_reducible refine (twoslotref06_W.calls a0_0 a0_1 a0_2 a0_3 t502 _ A5.out).mono ?_); rintro e w47 ⟨rfl, hb⟩; refine ⟨_, rfl, ?_⟩; replace BK499 := kB BK499 hb; replace BK500 := kB BK500 hb; replace HB := Aside0.mk (below_step (by repeat (first | exact sH HB.out | refine sN (w := w) ?_ | with_reducible refine sG (w := w) ?_ (by assumption))) hb); (try clear hb); (try clear hb2); (try clear hk); (try clear hi)))
                    replace BK499 := Aside0.mk (blk_drew BK499.out); replace BK500 := Aside0.mk (blk_drew BK500.out); replace HB := Aside0.mk (below_drew1 HB.out)
                    obtain ⟨i049, hi049, _, hsz49, _⟩ := info_parts info5
                    obtain ⟨hcut49, hA49, hC49⟩ := print_take_of (P := Try.prog) (Value.int .u8) 0 29 5 .i64 Try.underlying29 hi049 hsz49 A1 c1 l1 4 (by omega) (of_decide_eq_true (by first | (with_reducible assumption) | assumption)) HC1.out
                    have HR503 := Aside0.mk (Kd.C_of_reads (h1 := fun _ => rfl) (hA49 _ (Kd.reads_of_C HR1.out)))
                    have HC503 := Aside0.mk hC49
                    clear hA49 hC49 hi049 hsz49
                    have p505 : 0 ≤ (4 : Int) := (by omega)
                    have q505 : 4 < (l1.length : Int) := of_decide_eq_true (by first | (with_reducible assumption) | assumption)
                    obtain ⟨ad505, e505, hx505_0⟩ := Kd.at_int HR1.out 4 p505 q505
                    have hw505_0 := hx505_0
                    (try rw [show ((4 : Int)).toNat = 4 from rfl] at hw505_0)
                    (try rw [show 4 * 1 = 4 from rfl] at hw505_0)
                    (try simp only [Nat.reduceMul, Nat.reduceEqDiff, Go.Addr.add, ↓reduceIte] at hw505_0)
                    cases e505
                    (try simp only [show (4 : Int).toNat = 4 from rfl, Nat.reduceMul, Nat.reduceEqDiff, Go.Addr.add, ↓reduceIte] at hx505_0)
                    have qi505 : (4 < l1.length) = True := eq_true (by omega)
                    (try rw [show ((4 : Int)).toNat = 4 from rfl] at hx505_0)
                    replace hx505_0 := (HB.out.cell (World.block_lt_of_cell? w _ hx505_0)).trans hx505_0
                    replace p505 := eq_true p505
                    replace q505 := eq_true q505
                    refine start_ (n := 10) (S := fun w' => w'.cell? ⟨ad505.block, ad505.off + 4, none⟩ = some (.int .u8 (rd l1 4))) (ds := []) #[O, O, O, O, O, O, O, O, O, O] (by kernel_rfl) rfl rfl (((HB.out.cell (World.block_lt_of_cell? w _ hw505_0)).trans hw505_0)) (fun hHeld => ?_); refine with_tabW twoslotref15_Parse.tab5 twoslotref15_Parse.bits5 (fun HT_ HW_ => ?_)
                    generalize w47.drew = w48 at BK499 BK500 HB HR503 hx505_0 hHeld ⊢
                    refine pu (i := 0) (N := some 18) (v := ?_) (a' := ?_) #[X, O, O, O, O, O, O, O, O, O] rfl rfl HT_ (by kernel_rfl) (fun _ _ _ h => h) ⟨by rfl, ?_⟩ ?_ ?_
                    rotate_left
                    · intro w'; go_simp; with_reducible rfl
                    rotate_left
                    · simp only [sP]
                      rfl
                    refine pu (i := 1) (N := some 19) (v := ?_) (a' := ?_) #[X, X, O, O, O, O, O, O, O, O] rfl rfl HT_ (by kernel_rfl) (fun _ _ _ h => h) ⟨by rfl, ?_⟩ ?_ ?_
                    rotate_left
                    · intro w'; go_simp; with_reducible rfl
                    rotate_left
                    · simp only [sP]
                      rfl
                    refine pu (i := 3) (N := some 21) (v := ?_) (a' := ?_) #[X, X, O, X, O, O, O, O, O, O] rfl rfl HT_ (by kernel_rfl) (fun _ _ _ h => h) ⟨by rfl, ?_⟩ ?_ ?_
                    rotate_left
                    · intro w'; go_simp; with_reducible rfl
                    rotate_left
                    · simp only [sP]
                      rfl
                    refine pu (i := 4) (N := some 22) (v := ?_) (a' := ?_) #[X, X, O, X, X, O, O, O, O, O] rfl rfl HT_ (by kernel_rfl) (fun _ _ _ h => h) ⟨by rfl, ?_⟩ ?_ ?_
                    rotate_left
                    · intro w'; go_simp; with_reducible rfl
                    rotate_left
                    · simp only [sP]
                      rfl
                    refine tu (i := 5) (N := some 23) (v := ?_) (a' := ?_) #[X, X, O, X, X, X, O, O, O, O] rfl rfl HT_ HW_ (by kernel_rfl) (fun _ _ _ h => h) ⟨by rfl, ?_⟩ hHeld ?_ ?_
                    rotate_left
                    · intro w' s0
                      go_simp
                      with_reducible rfl
                    rotate_left
                    · simp only [sP]
                      rfl
                    refine pu (i := 6) (N := some 24) (v := ?_) (a' := ?_) #[X, X, O, X, X, X, X, O, O, O] rfl rfl HT_ (by kernel_rfl) (fun _ _ _ h => h) ⟨by rfl, ?_⟩ ?_ ?_
                    rotate_left
                    · intro w'; go_simp; with_reducible rfl
                    rotate_left
                    · simp only [sP]
                      rfl
                    refine join_ (σ := Nat) 1 #[X, X, X, X, X, X, X, X, X, O] (fun s_ => [(20, .int .i64 t504), (6, .pointer (some ⟨s_, 0, none⟩)), (25, .agg #[.int .i64 t504, .int .i64 (wrap64 (rd l1 4)), .slice none 0 0])]) (fun s_ w' => (w'.cell? ⟨ad505.block, ad505.off + 4, none⟩ = some (.int .u8 (rd l1 4))) ∧ (w'.heap[gb499]? = some (.cells #[.int .i64 a0_0, .int .i64 a0_1, .int .i64 a0_2, .int .i64 a0_3] 24 (0, 0))) ∧ (w'.heap[gb500]? = some (.cells #[.int .i64 0, .int .i64 0, .slice none 0 0] 35 (0, 0))) ∧ (w'.heap[s_]? = some (.cells #[.int .i64 0, .int .i64 0, .slice none 0 0] 35 (0, 0))) ∧ (w.heap.size ≤ s_) ∧ (w.heap.size ≤ s_) ∧ (gb499 ≠ s_) ∧ (s_ ≠ gb499) ∧ (gb500 ≠ s_) ∧ (s_ ≠ gb500) ∧ (Below w.heap.size w w')) ?_ ?_
                    rotate_left
                    · intro hCont
                      refine two_ (i := 2) (j := 8) (Ni := some 20) (Nj := some 6) #[X, X, X, X, X, X, X, O, O, O] #[X, X, O, X, X, X, X, O, X, O] rfl rfl rfl rfl (two_of HT_.out (by kernel_rfl)) (by decide) (by decide) (fun K hK => ?_) (fun K hK => ?_)
                      · skip
                        refine goes_ Try.func48 (by kernel_rfl) rfl #[.slice (some ad505) (l1.take 4).length c1] (by rfl) rfl rfl (by (try simp only [List.map_toArray, List.map_cons, List.map_nil]); first | done | (rw [show (l1.take 4).length = 4 from (by rw [List.length_take]; have h_ : (4 : Int) ≤ (l1.length : Int) := of_decide_eq_true (by first | (with_reducible assumption) | assumption); omega)] <;> rfl) | rfl | (simp only [List.length_drop, List.length_take]; rfl)) ?_
                        with_reducible refine (twoslotref15_worth.calls k _ _ (l1.take 4) t504 _ ?side1 ?side2 A8.out).mono ?_
                        (case side1 => exact sC (Kd.C_below HR503.out HB.out))
                        (case side2 => exact HC503.out)
                        rintro e w' ⟨rfl, ⟨nd, rfl⟩⟩
                        refine ⟨_, rfl, ?_⟩
                        refine hK.out _ _ (((HB.out.cell (World.block_lt_of_cell? w _ hw505_0)).trans hw505_0)) (fun hHeld => ?_)
                        clear hK K
                        refine norm_ (a' := ?_) ?_ ?_
                        rotate_left
                        · show Act.put _ (some 20) _ = _
                          simp only [sP]
                          rfl
                        refine pu (i := 7) (N := some 25) (v := ?_) (a' := ?_) #[X, X, X, X, X, X, X, X, O, O] rfl rfl HT_ (by kernel_rfl) (fun _ _ _ h => h) ⟨by rfl, ?_⟩ ?_ ?_
                        rotate_left
                        · intro w'; go_simp; with_reducible rfl
                        rotate_left
                        · simp only [sP]
                          rfl
                        refine one_ (i := 8) (N := some 6) #[X, X, X, X, X, X, X, X, X, O] rfl rfl (one_of HT_.out (by kernel_rfl)) (by decide) (fun K hK => ?_)
                        refine box_step ?hg (N := 6) ?hd (cs := #[.int .i64 0, .int .i64 0, .slice none 0 0]) (t := 35) ?hr ?_; (case hd => rfl); (case hg => rfl); (case hr => first | (go_simp; done) | (go_simp; rfl))
                        intro gb506 hg w50 hbox hb
                        have BK506 := Aside0.mk (hbox); have GW506 := Aside0.mk ((by rw [hg]; exact (below_size (by repeat (first | exact sH HB.out | refine sN (w := w) ?_ | with_reducible refine sG (w := w) ?_ (by assumption)))) : w.heap.size ≤ gb506)); have GE506 := Aside0.mk ((by rw [hg]; exact (below_size (by repeat (first | exact sH HB.out | refine sN (w := w) ?_ | with_reducible refine sG (w := w) ?_ (by assumption)))) : w.heap.size ≤ gb506)); replace HB := Aside0.mk (below_step (by repeat (first | exact sH HB.out | refine sN (w := w) ?_ | with_reducible refine sG (w := w) ?_ (by assumption))) hb); have NB499_506 := Aside0.mk ((by rw [hg]; exact Nat.ne_of_lt (blk_lt (g := gb499) (o := .cells #[.int .i64 a0_0, .int .i64 a0_1, .int .i64 a0_2, .int .i64 a0_3] 24 (0, 0)) (by first | exact BK499.out | (refine sO ?_; exact BK499.out))) : gb499 ≠ gb506)); have NB506_499 := Aside0.mk ((by rw [hg]; exact Nat.ne_of_gt (blk_lt (g := gb499) (o := .cells #[.int .i64 a0_0, .int .i64 a0_1, .int .i64 a0_2, .int .i64 a0_3] 24 (0, 0)) (by first | exact BK499.out | (refine sO ?_; exact BK499.out))) : gb506 ≠ gb499)); replace BK499 := kB BK499 hb; have NB500_506 := Aside0.mk ((by rw [hg]; exact Nat.ne_of_lt (blk_lt (g := gb500) (o := .cells #[.int .i64 0, .int .i64 0, .slice none 0 0] 35 (0, 0)) (by first | exact BK500.out | (refine sO ?_; exact BK500.out))) : gb500 ≠ gb506)); have NB506_500 := Aside0.mk ((by rw [hg]; exact Nat.ne_of_gt (blk_lt (g := gb500) (o := .cells #[.int .i64 0, .int .i64 0, .slice none 0 0] 35 (0, 0)) (by first | exact BK500.out | (refine sO ?_; exact BK500.out))) : gb506 ≠ gb500)); replace BK500 := kB BK500 hb
                        clear hb hbox hg
                        refine hK.out _ _ (((HB.out.cell (World.block_lt_of_cell? w _ hw505_0)).trans hw505_0)) (fun hHeld => ?_)
                        clear hK K
                        refine norm_ (a' := ?_) ?_ ?_
                        rotate_left
                        · show Act.put _ (some 6) _ = _
                          simp only [sP]
                          rfl
                        exact norm_ (by simp only [putAll, Act.put, List.setIfInBounds_toArray, List.set_cons_zero, List.set_cons_succ]) (hCont (gb506) _ ⟨hHeld, (by first | exact BK499.out | (refine sO ?_; exact BK499.out)), (by first | exact BK500.out | (refine sO ?_; exact BK500.out)), (by first | exact BK506.out | (refine sO ?_; exact BK506.out)), GW506.out, GE506.out, NB499_506.out, NB506_499.out, NB500_506.out, NB506_500.out, (by repeat (first | exact sH HB.out | refine sN (w := w) ?_ | with_reducible refine sG (w := w) ?_ (by assumption)))⟩)
                      · skip
                        refine box_step ?hg (N := 6) ?hd (cs := #[.int .i64 0, .int .i64 0, .slice none 0 0]) (t := 35) ?hr ?_; (case hd => rfl); (case hg => rfl); (case hr => first | (go_simp; done) | (go_simp; rfl))
                        intro gb506 hg w50 hbox hb
                        have BK506 := Aside0.mk (hbox); have GW506 := Aside0.mk ((by rw [hg]; exact (below_size (by repeat (first | exact sH HB.out | refine sN (w := w) ?_ | with_reducible refine sG (w := w) ?_ (by assumption)))) : w.heap.size ≤ gb506)); have GE506 := Aside0.mk ((by rw [hg]; exact (below_size (by repeat (first | exact sH HB.out | refine sN (w := w) ?_ | with_reducible refine sG (w := w) ?_ (by assumption)))) : w.heap.size ≤ gb506)); replace HB := Aside0.mk (below_step (by repeat (first | exact sH HB.out | refine sN (w := w) ?_ | with_reducible refine sG (w := w) ?_ (by assumption))) hb); have NB499_506 := Aside0.mk ((by rw [hg]; exact Nat.ne_of_lt (blk_lt (g := gb499) (o := .cells #[.int .i64 a0_0, .int .i64 a0_1, .int .i64 a0_2, .int .i64 a0_3] 24 (0, 0)) (by first | exact BK499.out | (refine sO ?_; exact BK499.out))) : gb499 ≠ gb506)); have NB506_499 := Aside0.mk ((by rw [hg]; exact Nat.ne_of_gt (blk_lt (g := gb499) (o := .cells #[.int .i64 a0_0, .int .i64 a0_1, .int .i64 a0_2, .int .i64 a0_3] 24 (0, 0)) (by first | exact BK499.out | (refine sO ?_; exact BK499.out))) : gb506 ≠ gb499)); replace BK499 := kB BK499 hb; have NB500_506 := Aside0.mk ((by rw [hg]; exact Nat.ne_of_lt (blk_lt (g := gb500) (o := .cells #[.int .i64 0, .int .i64 0, .slice none 0 0] 35 (0, 0)) (by first | exact BK500.out | (refine sO ?_; exact BK500.out))) : gb500 ≠ gb506)); have NB506_500 := Aside0.mk ((by rw [hg]; exact Nat.ne_of_gt (blk_lt (g := gb500) (o := .cells #[.int .i64 0, .int .i64 0, .slice none 0 0] 35 (0, 0)) (by first | exact BK500.out | (refine sO ?_; exact BK500.out))) : gb506 ≠ gb500)); replace BK500 := kB BK500 hb
                        clear hb hbox hg
                        refine hK.out _ _ (((HB.out.cell (World.block_lt_of_cell? w _ hw505_0)).trans hw505_0)) (fun hHeld => ?_)
                        clear hK K
                        refine norm_ (a' := ?_) ?_ ?_
                        rotate_left
                        · show Act.put _ (some 6) _ = _
                          simp only [sP]
                          rfl
                        refine one_ (i := 2) (N := some 20) #[X, X, X, X, X, X, X, O, X, O] rfl rfl (one_of HT_.out (by kernel_rfl)) (by decide) (fun K hK => ?_)
                        refine goes_ Try.func48 (by kernel_rfl) rfl #[.slice (some ad505) (l1.take 4).length c1] (by rfl) rfl rfl (by (try simp only [List.map_toArray, List.map_cons, List.map_nil]); first | done | (rw [show (l1.take 4).length = 4 from (by rw [List.length_take]; have h_ : (4 : Int) ≤ (l1.length : Int) := of_decide_eq_true (by first | (with_reducible assumption) | assumption); omega)] <;> rfl) | rfl | (simp only [List.length_drop, List.length_take]; rfl)) ?_
                        with_reducible refine (twoslotref15_worth.calls k _ _ (l1.take 4) t504 _ ?side1 ?side2 A8.out).mono ?_
                        (case side1 => exact sC (Kd.C_below HR503.out HB.out))
                        (case side2 => exact HC503.out)
                        rintro e w' ⟨rfl, ⟨nd, rfl⟩⟩
                        refine ⟨_, rfl, ?_⟩
                        refine hK.out _ _ (((HB.out.cell (World.block_lt_of_cell? w _ hw505_0)).trans hw505_0)) (fun hHeld => ?_)
                        clear hK K
                        refine norm_ (a' := ?_) ?_ ?_
                        rotate_left
                        · show Act.put _ (some 20) _ = _
                          simp only [sP]
                          rfl
                        refine pu (i := 7) (N := some 25) (v := ?_) (a' := ?_) #[X, X, X, X, X, X, X, X, X, O] rfl rfl HT_ (by kernel_rfl) (fun _ _ _ h => h) ⟨by rfl, ?_⟩ ?_ ?_
                        rotate_left
                        · intro w'; go_simp; with_reducible rfl
                        rotate_left
                        · simp only [sP]
                          rfl
                        exact norm_ (by simp only [putAll, Act.put, List.setIfInBounds_toArray, List.set_cons_zero, List.set_cons_succ]) (hCont (gb506) _ ⟨hHeld, (by first | exact BK499.out | (refine sO ?_; exact BK499.out)), (by first | exact BK500.out | (refine sO ?_; exact BK500.out)), (by first | exact BK506.out | (refine sO ?_; exact BK506.out)), GW506.out, GE506.out, NB499_506.out, NB506_499.out, NB500_506.out, NB506_500.out, (by repeat (first | exact sH HB.out | refine sN (w := w) ?_ | with_reducible refine sG (w := w) ?_ (by assumption)))⟩)
                    rintro gb506 w51 ⟨hS_, h0_, h1_, h2_, h3_, h4_, h5_, h6_, h7_, h8_, h9_⟩
                    have n0_ : Aside0 (w51.heap[gb499]? = some (.cells #[.int .i64 a0_0, .int .i64 a0_1, .int .i64 a0_2, .int .i64 a0_3] 24 (0, 0))) := ⟨h0_⟩
                    have n1_ : Aside0 (w51.heap[gb500]? = some (.cells #[.int .i64 0, .int .i64 0, .slice none 0 0] 35 (0, 0))) := ⟨h1_⟩
                    have n2_ : Aside0 (w51.heap[gb506]? = some (.cells #[.int .i64 0, .int .i64 0, .slice none 0 0] 35 (0, 0))) := ⟨h2_⟩
                    have n3_ : Aside0 (w.heap.size ≤ gb506) := ⟨h3_⟩
                    have n4_ : Aside0 (w.heap.size ≤ gb506) := ⟨h4_⟩
                    have n5_ : Aside0 (gb499 ≠ gb506) := ⟨h5_⟩
                    have n6_ : Aside0 (gb506 ≠ gb499) := ⟨h6_⟩
                    have n7_ : Aside0 (gb500 ≠ gb506) := ⟨h7_⟩
                    have n8_ : Aside0 (gb506 ≠ gb500) := ⟨h8_⟩
                    have n9_ : Aside0 (Below w.heap.size w w51) := ⟨h9_⟩
                    clear BK499; clear BK500; clear HB
                    clear h0_ h1_ h2_ h3_ h4_ h5_ h6_ h7_ h8_ h9_
                    have BK499 := n0_; have BK500 := n1_; have BK506 := n2_; have GW506 := n3_; have GE506 := n4_; have NB499_506 := n5_; have NB506_499 := n6_; have NB500_506 := n7_; have NB506_500 := n8_; have HB := n9_; clear n0_ n1_ n2_ n3_ n4_ n5_ n6_ n7_ n8_ n9_
                    have hHeld : w51.cell? ⟨ad505.block, ad505.off + 4, none⟩ = some (.int .u8 (rd l1 4)) := hS_
                    refine norm_ (a' := ?_) ?_ ?_
                    rotate_left
                    · simp only [putAll, Act.put, List.setIfInBounds_toArray, List.set_cons_zero, List.set_cons_succ]
                      rfl
                    refine one_ (i := 9) (N := none) #[X, X, X, X, X, X, X, X, X, X] rfl rfl (one_of HT_.out (by kernel_rfl)) (by decide) (fun K hK => ?_)
                    have hs52 : w51.cell? ⟨gb506, 0, none⟩ = some (.int .i64 0) := (blk_cell BK506.out 0).trans rfl
                    have hfs52 := blk_frozen BK506.out 0
                    have hns52_0 := NB499_506.out
                    have hns52_1 := NB500_506.out
                    have hms52_0 := NB506_499.out
                    have hms52_1 := NB506_500.out
                    have hs53 : w51.cell? ⟨gb506, 1, none⟩ = some (.int .i64 0) := (blk_cell BK506.out 1).trans rfl
                    have hfs53 := blk_frozen BK506.out 1
                    have hns53_0 := NB499_506.out
                    have hns53_1 := NB500_506.out
                    have hms53_0 := NB506_499.out
                    have hms53_1 := NB506_500.out
                    have hs54 : w51.cell? ⟨gb506, 2, none⟩ = some (.slice none 0 0) := (blk_cell BK506.out 2).trans rfl
                    have hfs54 := blk_frozen BK506.out 2
                    have hns54_0 := NB499_506.out
                    have hns54_1 := NB500_506.out
                    have hms54_0 := NB506_499.out
                    have hms54_1 := NB506_500.out
                    refine skip_ (w1 := ?_) (by rfl) rfl ?_ ?_
                    rotate_left
                    · go_simp
                      rfl
                    refine hK.out _ _ (((cell_far (p := ⟨gb506, _, none⟩) (by first | exact Nat.ne_of_lt (Nat.lt_of_lt_of_le (by have := World.block_lt_of_cell? _ _ hw505_0; first | rwa [add_block] at this | exact this) GW506.out) | (rw [add_block]; exact Nat.ne_of_lt (Nat.lt_of_lt_of_le (by have := World.block_lt_of_cell? _ _ hw505_0; first | rwa [add_block] at this | exact this) GW506.out)) | (show (Addr.add _ _).block ≠ _; rw [add_block]; exact Nat.ne_of_lt (Nat.lt_of_lt_of_le (by have := World.block_lt_of_cell? _ _ hw505_0; first | rwa [add_block] at this | exact this) GW506.out)) | (dsimp only; exact Nat.ne_of_lt (Nat.lt_of_lt_of_le (by have := World.block_lt_of_cell? _ _ hw505_0; first | rwa [add_block] at this | exact this) GW506.out))) _).trans (((cell_far (p := ⟨gb506, _, none⟩) (by first | exact Nat.ne_of_lt (Nat.lt_of_lt_of_le (by have := World.block_lt_of_cell? _ _ hw505_0; first | rwa [add_block] at this | exact this) GW506.out) | (rw [add_block]; exact Nat.ne_of_lt (Nat.lt_of_lt_of_le (by have := World.block_lt_of_cell? _ _ hw505_0; first | rwa [add_block] at this | exact this) GW506.out)) | (show (Addr.add _ _).block ≠ _; rw [add_block]; exact Nat.ne_of_lt (Nat.lt_of_lt_of_le (by have := World.block_lt_of_cell? _ _ hw505_0; first | rwa [add_block] at this | exact this) GW506.out)) | (dsimp only; exact Nat.ne_of_lt (Nat.lt_of_lt_of_le (by have := World.block_lt_of_cell? _ _ hw505_0; first | rwa [add_block] at this | exact this) GW506.out))) _).trans (((cell_far (p := ⟨gb506, _, none⟩) (by first | exact Nat.ne_of_lt (Nat.lt_of_lt_of_le (by have := World.block_lt_of_cell? _ _ hw505_0; first | rwa [add_block] at this | exact this) GW506.out) | (rw [add_block]; exact Nat.ne_of_lt (Nat.lt_of_lt_of_le (by have := World.block_lt_of_cell? _ _ hw505_0; first | rwa [add_block] at this | exact this) GW506.out)) | (show (Addr.add _ _).block ≠ _; rw [add_block]; exact Nat.ne_of_lt (Nat.lt_of_lt_of_le (by have := World.block_lt_of_cell? _ _ hw505_0; first | rwa [add_block] at this | exact this) GW506.out)) | (dsimp only; exact Nat.ne_of_lt (Nat.lt_of_lt_of_le (by have := World.block_lt_of_cell? _ _ hw505_0; first | rwa [add_block] at this | exact this) GW506.out))) _).trans (hHeld))))))) (fun hHeld => ?_)
                    clear hK K
                    refine done_ (done_of HT_.out (by kernel_rfl)) ?_
                    obtain ⟨i055, hi055, _, hsz55, _⟩ := info_parts info5
                    obtain ⟨A55, hcut55, hA55, hC55⟩ := print_mid_of (P := Try.prog) (Value.int .u8) 0 29 5 .i64 .i64 Try.underlying29 hi055 hsz55 (some ad505) c1 l1 5 7 (by omega) (by first | omega | exact of_decide_eq_true (by first | (with_reducible assumption) | assumption)) (of_decide_eq_true (by first | (with_reducible assumption) | assumption)) HC1.out
                    have HR507 := Aside0.mk (Kd.C_of_reads (h1 := fun _ => rfl) (hA55 _ (Kd.reads_of_C HR1.out)))
                    have HC507 := Aside0.mk hC55
                    clear hA55 hC55 hi055 hsz55
                    try go_wp2_with (first | ((with_reducible refine gate_callee (f := 48) rfl ?_); refine goesL_ (some 28) rfl rfl Try.func48 (by kernel_rfl) rfl #[.slice A55 ((l1.take 7).drop 5).length (c1 - 5)] rfl (by (try simp only [List.map_toArray, List.map_cons, List.map_nil]); first | done | (rw [show ((l1.take 7).drop 5).length = (7 - 5) from (by rw [List.length_drop, List.length_take]; have h_ : (7 : Int) ≤ (l1.length : Int) := of_decide_eq_true (by first | (with_reducible assumption) | assumption); omega)] <;> rfl) | rfl | (simp only [List.length_drop, List.length_take]; rfl)) ?_; (with_reducible refine (twoslotref15_worth.calls k _ _ ((l1.take 7).drop 5) t508 _ ?side1 ?side2 A12.out).mono ?_); (case side1 => exact Kd.C_below HR507.out (by repeat (first | exact sH HB.out | refine sN (w := w) ?_ | with_reducible refine sG (w := w) ?_ (by assumption)))); (case side2 => exact HC507.out); rintro e w' ⟨rfl, ⟨nd, rfl⟩⟩; refine ⟨_, rfl, ?_⟩; have hnb56 := NB499_506.out; have hnc56 := NB506_499.out; obtain ⟨hcz57_0, hcz57_1, hcz57_2, hcz57_3, hfz57_0, hfz57_1, hfz57_2, hfz57_3⟩ := cs4 BK499.out) | ((with_reducible refine gate_callee (f := 49) rfl ?_); refine goesL_ (some 31) rfl rfl Try.func49 (by kernel_rfl) rfl #[.agg #[.int .i64 a0_0, .int .i64 a0_1, .int .i64 a0_2, .int .i64 a0_3]] rfl (by (try simp only [sM]); first | done | rfl | (simp only [sT]; rfl)) ?_; (with_reducible refine (twoslotref06_D.calls a0_0 a0_1 a0_2 a0_3 t509 _ A13.out).mono ?_); rintro e w58 ⟨rfl, hb⟩; refine ⟨_, rfl, ?_⟩; replace BK499 := Aside0.mk (blk_below (g := gb499) (o := .cells #[.int .i64 a0_0, .int .i64 a0_1, .int .i64 a0_2, .int .i64 a0_3] 24 (0, 0)) (by (try refine sO ?_); refine blk_far ?_ NB499_506.out _; (try refine sO ?_); refine blk_far ?_ NB499_506.out _; (try refine sO ?_); refine blk_far ?_ NB499_506.out _; first | exact BK499.out | (refine sO ?_; exact BK499.out)) hb); replace BK500 := Aside0.mk (blk_below (g := gb500) (o := .cells #[.int .i64 0, .int .i64 0, .slice none 0 0] 35 (0, 0)) (by (try refine sO ?_); refine blk_far ?_ NB500_506.out _; (try refine sO ?_); refine blk_far ?_ NB500_506.out _; (try refine sO ?_); refine blk_far ?_ NB500_506.out _; first | exact BK500.out | (refine sO ?_; exact BK500.out)) hb); replace BK506 := Aside0.mk (blk_below (g := gb506) (o := .cells #[.int .i64 t504, .int .i64 (wrap64 (rd l1 4)), .slice none 0 0] 35 (0, 0)) (by (try refine sO ?_); refine blk_put (cs := #[.int .i64 t504, .int .i64 (wrap64 (rd l1 4)), .slice none 0 0]) ?_ 2 _ rfl; (try refine sO ?_); refine blk_put (cs := #[.int .i64 t504, .int .i64 0, .slice none 0 0]) ?_ 1 _ rfl; (try refine sO ?_); refine blk_put (cs := #[.int .i64 0, .int .i64 0, .slice none 0 0]) ?_ 0 _ rfl; first | exact BK506.out | (refine sO ?_; exact BK506.out)) hb); replace HB := Aside0.mk (below_step (by repeat (first | exact sH HB.out | refine sN (w := w) ?_ | with_reducible refine sG (w := w) ?_ (by assumption))) hb); (try clear hb); (try clear hb2); (try clear hk); (try clear hi); obtain ⟨i059, hi059, _, hsz59, _⟩ := info_parts info5; obtain ⟨A59, hcut59, hA59, hC59⟩ := print_drop_of (P := Try.prog) (Value.int .u8) 0 29 5 .i64 Try.underlying29 hi059 hsz59 (some ad505) c1 l1 7 (by omega) (of_decide_eq_true (by first | (with_reducible assumption) | assumption)) HC1.out; have HR510 := Aside0.mk (Kd.C_of_reads (h1 := fun _ => rfl) (hA59 _ (Kd.reads_of_C HR1.out))); have HC510 := Aside0.mk hC59; clear hA59 hC59 hi059 hsz59) | ((with_reducible refine gate_callee (f := 50) rfl ?_); refine goesL_ (some 37) rfl rfl Try.func50 (by kernel_rfl) rfl #[.slice A59 (l1.drop 7).length (c1 - 7), .int .i64 t508] rfl (by (try simp only [List.map_toArray, List.map_cons, List.map_nil]); first | done | (rw [show (l1.drop 7).length = (l1.length - 7) from List.length_drop] <;> rfl) | rfl | (simp only [List.length_drop, List.length_take]; rfl)) ?_; (with_reducible refine (twoslotref15_read.calls k _ _ (l1.drop 7) t508 t511 _ ?side1 ?side2 A36.out).mono ?_); (case side1 => exact sC (Kd.C_below HR510.out HB.out)); (case side2 => exact HC510.out); rintro e w60 ⟨v512, rfl, ho0, hb⟩; refine ⟨_, rfl, ?_⟩; have HO513 := Aside0.mk (Kd.R_lower ho0 (below_size (by repeat (first | exact sH HB.out | refine sN (w := w) ?_ | with_reducible refine sG (w := w) ?_ (by assumption))))); replace BK499 := kB BK499 hb; replace BK500 := kB BK500 hb; replace BK506 := kB BK506 hb; replace HB := Aside0.mk (below_step (by repeat (first | exact sH HB.out | refine sN (w := w) ?_ | with_reducible refine sG (w := w) ?_ (by assumption))) hb); (try clear hb); (try clear hb2); (try clear hk); (try clear hi); (try clear ho0); obtain ⟨Ao61, co61, eo61⟩ := Kd.R_slice HO513.out; subst eo61; have hnb62 := NB506_500.out; have hnc62 := NB500_506.out; obtain ⟨hcz63_0, hcz63_1, hcz63_2, hfz63_0, hfz63_1, hfz63_2⟩ := cs3 BK506.out))
                    have n0_ : Aside0 (Kd.R k27 27 (w60.setCell ⟨gb506, 2, none⟩ (.slice Ao61 t511.length co61)) w.heap.size (fun _ => True) (.slice Ao61 t511.length co61) t511) := ⟨by (with_reducible repeat (first | apply Kd.R_alloc | apply Kd.R_drewN | apply Kd.R_drew)); exact Kd.R_mono (Kd.R_far (p := ⟨gb506, 2, none⟩) (Kd.R_types HO513.out BK506.out (by decide)) (fun _ hk => hk.2) (.slice Ao61 t511.length co61)) (fun _ hk => trivial)⟩
                    have n1_ : Aside0 ((w60.setCell ⟨gb506, 2, none⟩ (.slice Ao61 t511.length co61)).heap[gb499]? = some (.cells #[.int .i64 a0_0, .int .i64 a0_1, .int .i64 a0_2, .int .i64 a0_3] 24 (0, 0))) := ⟨by (try refine sO ?_); refine blk_far ?_ NB499_506.out _; (try refine sO ?_); exact BK499.out⟩
                    have n2_ : Aside0 ((w60.setCell ⟨gb506, 2, none⟩ (.slice Ao61 t511.length co61)).heap[gb500]? = some (.cells #[.int .i64 0, .int .i64 0, .slice none 0 0] 35 (0, 0))) := ⟨by (try refine sO ?_); refine blk_far ?_ NB500_506.out _; (try refine sO ?_); exact BK500.out⟩
                    have n3_ : Aside0 ((w60.setCell ⟨gb506, 2, none⟩ (.slice Ao61 t511.length co61)).heap[gb506]? = some (.cells #[.int .i64 t504, .int .i64 (wrap64 (rd l1 4)), .slice Ao61 t511.length co61] 35 (0, 0))) := ⟨by (try refine sO ?_); refine blk_put (cs := #[.int .i64 t504, .int .i64 (wrap64 (rd l1 4)), .slice none 0 0]) ?_ 2 _ rfl; (try refine sO ?_); exact BK506.out⟩
                    have n4_ : Aside0 (Below w.heap.size w (w60.setCell ⟨gb506, 2, none⟩ (.slice Ao61 t511.length co61))) := ⟨by repeat (first | exact sH HB.out | refine sN (w := w) ?_ | with_reducible refine sG (w := w) ?_ (by assumption))⟩
                    (try clear HO513)
                    (try clear BK499)
                    (try clear BK500)
                    (try clear BK506)
                    (try clear HB)
                    generalize (w60.setCell ⟨gb506, 2, none⟩ (.slice Ao61 t511.length co61)) = w64 at n0_ n1_ n2_ n3_ n4_ ⊢
                    have HO513 := n0_; have BK499 := n1_; have BK500 := n2_; have BK506 := n3_; have HB := n4_; clear n0_ n1_ n2_ n3_ n4_; have n0_ := Aside0.mk (Kd.R_drew HO513.out); have n1_ := Aside0.mk (blk_drew BK499.out); have n2_ := Aside0.mk (blk_drew BK500.out); have n3_ := Aside0.mk (blk_drew BK506.out); have n4_ := Aside0.mk (below_drew1 HB.out); clear HO513; clear BK499; clear BK500; clear BK506; clear HB; have HO513 := n0_; have BK499 := n1_; have BK500 := n2_; have BK506 := n3_; have HB := n4_; clear n0_ n1_ n2_ n3_ n4_
                    refine start_ (n := 13) (S := fun w' => w'.cell? ⟨gb499, 0, none⟩ = some (.int .i64 a0_0) ∧ w'.cell? ⟨gb499, 1, none⟩ = some (.int .i64 a0_1) ∧ w'.cell? ⟨gb499, 2, none⟩ = some (.int .i64 a0_2) ∧ w'.cell? ⟨gb499, 3, none⟩ = some (.int .i64 a0_3) ∧ w'.cell? ⟨gb506, 0, none⟩ = some (.int .i64 t504) ∧ w'.cell? ⟨gb506, 1, none⟩ = some (.int .i64 (wrap64 (rd l1 4))) ∧ w'.cell? ⟨gb506, 2, none⟩ = some (.slice Ao61 t511.length co61) ∧ Sem.run Try.prog (convert 29 9 (.slice (some ad505) l1.length c1)) w' = .ok (.string (strOfNums l1)) w') (ds := []) #[O, O, O, O, O, O, O, O, O, O, O, O, O] (by kernel_rfl) rfl rfl ⟨(blk_cell BK499.out 0).trans rfl, (blk_cell BK499.out 1).trans rfl, (blk_cell BK499.out 2).trans rfl, (blk_cell BK499.out 3).trans rfl, (blk_cell BK506.out 0).trans rfl, (blk_cell BK506.out 1).trans rfl, (blk_cell BK506.out 2).trans rfl, (Kd.C_string (P := Try.prog) Try.underlying29 Try.underlying5 Try.underlying9 (Kd.C_below HR1.out HB.out))⟩ (fun hHeld => ?_); refine with_tabW twoslotref15_Parse.tab10 twoslotref15_Parse.bits10 (fun HT_ HW_ => ?_)
                    generalize w64.drew = w65 at HO513 BK499 BK500 BK506 HB hHeld ⊢
                    refine tu (i := 0) (N := some 39) (v := ?_) (a' := ?_) #[X, O, O, O, O, O, O, O, O, O, O, O, O] rfl rfl HT_ HW_ (by kernel_rfl) (fun _ _ _ h => h) ⟨by rfl, ?_⟩ hHeld ?_ ?_
                    rotate_left
                    · rintro w' ⟨s0, s1, s2, s3, s4, s5, s6, s7⟩; go_simp; with_reducible rfl
                    rotate_left
                    · simp only [sP]
                      rfl
                    refine tu (i := 1) (N := some 40) (v := ?_) (a' := ?_) #[X, X, O, O, O, O, O, O, O, O, O, O, O] rfl rfl HT_ HW_ (by kernel_rfl) (fun _ _ _ h => h) ⟨by rfl, ?_⟩ hHeld ?_ ?_
                    rotate_left
                    · rintro w' ⟨s0, s1, s2, s3, s4, s5, s6, s7⟩; go_simp; with_reducible rfl
                    rotate_left
                    · simp only [sP]
                      rfl
                    refine one_ (i := 2) (N := some 41) #[X, X, X, O, O, O, O, O, O, O, O, O, O] rfl rfl (one_of HT_.out (by kernel_rfl)) (by decide) (fun K hK => ?_)
                    refine goes_ Try.func46 (by kernel_rfl) rfl #[.agg #[.int .i64 a0_0, .int .i64 a0_1, .int .i64 a0_2, .int .i64 a0_3], .agg #[.int .i64 t504, .int .i64 (wrap64 (rd l1 4)), .slice Ao61 t511.length co61]] (by rfl) rfl rfl (by (try simp only [sM]); first | done | rfl | (simp only [sT]; rfl)) ?_
                    with_reducible refine (twoslotref15_May.calls k a0_0 a0_1 a0_2 a0_3 t504 (wrap64 (rd l1 4)) _ _ t511 true _ ?side1 ?side2 A37.out).mono ?_
                    (case side1 => exact sC (Kd.R_reads' HO513.out).2.2)
                    (case side2 => exact (Kd.R_reads' HO513.out).2.1)
                    rintro e w66 ⟨rfl, hb⟩
                    refine ⟨_, rfl, ?_⟩
                    replace HO513 := Aside0.mk (Kd.R_below (sR HO513.out) hb); replace BK499 := kB BK499 hb; replace BK500 := kB BK500 hb; replace BK506 := kB BK506 hb; replace HB := Aside0.mk (below_step (by repeat (first | exact sH HB.out | refine sN (w := w) ?_ | with_reducible refine sG (w := w) ?_ (by assumption))) hb)
                    (try clear hb)
                    (try clear hb2)
                    (try clear hk)
                    (try clear hi)
                    refine hK.out _ _ ⟨(blk_cell BK499.out 0).trans rfl, (blk_cell BK499.out 1).trans rfl, (blk_cell BK499.out 2).trans rfl, (blk_cell BK499.out 3).trans rfl, (blk_cell BK506.out 0).trans rfl, (blk_cell BK506.out 1).trans rfl, (blk_cell BK506.out 2).trans rfl, (Kd.C_string (P := Try.prog) Try.underlying29 Try.underlying5 Try.underlying9 (Kd.C_below HR1.out HB.out))⟩ (fun hHeld => ?_)
                    clear hK K
                    refine norm_ (a' := ?_) ?_ ?_
                    rotate_left
                    · show Act.put _ (some 41) _ = _
                      simp only [sP]
                      rfl
                    refine pu (i := 3) (N := some 42) (v := ?_) (a' := ?_) #[X, X, X, X, O, O, O, O, O, O, O, O, O] rfl rfl HT_ (by kernel_rfl) (fun _ _ _ h => h) ⟨by rfl, ?_⟩ ?_ ?_
                    rotate_left
                    · intro w'; go_simp; with_reducible rfl
                    rotate_left
                    · simp only [sP]
                      rfl
                    refine pu (i := 4) (N := some 43) (v := ?_) (a' := ?_) #[X, X, X, X, X, O, O, O, O, O, O, O, O] rfl rfl HT_ (by kernel_rfl) (fun _ _ _ h => h) ⟨by rfl, ?_⟩ ?_ ?_
                    rotate_left
                    · intro w'; go_simp; with_reducible rfl
                    rotate_left
                    · simp only [sP]
                      rfl
                    refine pu (i := 9) (N := some 48) (v := ?_) (a' := ?_) #[X, X, X, X, X, O, O, O, O, X, O, O, O] rfl rfl HT_ (by kernel_rfl) (fun _ _ _ h => h) ⟨by rfl, ?_⟩ ?_ ?_
                    rotate_left
                    · intro w'; go_simp; with_reducible rfl
                    rotate_left
                    · simp only [sP]
                      rfl
                    refine tu (i := 5) (N := some 44) (v := ?_) (a' := ?_) #[X, X, X, X, X, X, O, O, O, X, O, O, O] rfl rfl HT_ HW_ (by kernel_rfl) (fun _ _ _ h => h) ⟨by rfl, ?_⟩ hHeld ?_ ?_
                    rotate_left
                    · rintro w' ⟨s0, s1, s2, s3, s4, s5, s6, s7⟩; go_simp; with_reducible rfl
                    rotate_left
                    · simp only [sP]
                      rfl
                    refine tu (i := 6) (N := some 45) (v := ?_) (a' := ?_) #[X, X, X, X, X, X, X, O, O, X, O, O, O] rfl rfl HT_ HW_ (by kernel_rfl) (fun _ _ _ h => h) ⟨by rfl, ?_⟩ hHeld ?_ ?_
                    rotate_left
                    · rintro w' ⟨s0, s1, s2, s3, s4, s5, s6, s7⟩; go_simp; with_reducible rfl
                    rotate_left
                    · simp only [sP]
                      rfl
                    refine tu (i := 10) (N := some 49) (v := ?_) (a' := ?_) #[X, X, X, X, X, X, X, O, O, X, X, O, O] rfl rfl HT_ HW_ (by kernel_rfl) (fun _ _ _ h => h) ⟨by rfl, ?_⟩ hHeld ?_ ?_
                    rotate_left
                    · rintro w' ⟨s0, s1, s2, s3, s4, s5, s6, s7⟩; go_simp; with_reducible rfl
                    rotate_left
                    · simp only [sP]
                      rfl
                    refine one_ (i := 7) (N := some 46) #[X, X, X, X, X, X, X, X, O, X, X, O, O] rfl rfl (one_of HT_.out (by kernel_rfl)) (by decide) (fun K hK => ?_)
                    refine goes_ Try.func40 (by kernel_rfl) rfl #[.agg #[.int .i64 a0_0, .int .i64 a0_1, .int .i64 a0_2, .int .i64 a0_3], .agg #[.int .i64 t504, .int .i64 (wrap64 (rd l1 4)), .slice Ao61 t511.length co61]] (by rfl) rfl rfl (by (try simp only [sM]); first | done | rfl | (simp only [sT]; rfl)) ?_
                    with_reducible refine (twoslotref15_Made.calls k a0_0 a0_1 a0_2 a0_3 t504 (wrap64 (rd l1 4)) _ _ t511 t515 _ ?side1 ?side2 A39.out).mono ?_
                    (case side1 => exact sC (Kd.R_reads' HO513.out).2.2)
                    (case side2 => exact (Kd.R_reads' HO513.out).2.1)
                    rintro e w67 ⟨v516, rfl, ho0, hb⟩
                    refine ⟨_, rfl, ?_⟩
                    replace HO513 := Aside0.mk (Kd.R_below (sR HO513.out) hb); have HO517 := Aside0.mk (Kd.R_lower ho0 (below_size (by repeat (first | exact sH HB.out | refine sN (w := w) ?_ | with_reducible refine sG (w := w) ?_ (by assumption))))); replace BK499 := kB BK499 hb; replace BK500 := kB BK500 hb; replace BK506 := kB BK506 hb; replace HB := Aside0.mk (below_step (by repeat (first | exact sH HB.out | refine sN (w := w) ?_ | with_reducible refine sG (w := w) ?_ (by assumption))) hb)
                    (try clear hb)
                    (try clear hb2)
                    (try clear hk)
                    (try clear hi)
                    (try clear ho0)
                    refine hK.out _ _ ⟨(blk_cell BK499.out 0).trans rfl, (blk_cell BK499.out 1).trans rfl, (blk_cell BK499.out 2).trans rfl, (blk_cell BK499.out 3).trans rfl, (blk_cell BK506.out 0).trans rfl, (blk_cell BK506.out 1).trans rfl, (blk_cell BK506.out 2).trans rfl, (Kd.C_string (P := Try.prog) Try.underlying29 Try.underlying5 Try.underlying9 (Kd.C_below HR1.out HB.out))⟩ (fun hHeld => ?_)
                    clear hK K
                    refine norm_ (a' := ?_) ?_ ?_
                    rotate_left
                    · show Act.put _ (some 46) _ = _
                      simp only [sP]
                      rfl
                    refine one_ (i := 8) (N := some 47) #[X, X, X, X, X, X, X, X, X, X, X, O, O] rfl rfl (one_of HT_.out (by kernel_rfl)) (by decide) (fun K hK => ?_)
                    have hcv68 := own_string (P := Try.prog) Try.underlying29 Try.underlying5 Try.underlying9 (Kd.own_of_R HO517.out)
                    refine value_ (w1 := ?_) (v := ?_) (by rfl) rfl ?_ ?_
                    rotate_left 2
                    · go_simp
                      constructor
                      · rfl
                      · rfl
                    clear hcv68
                    refine hK.out _ _ ⟨(blk_cell BK499.out 0).trans rfl, (blk_cell BK499.out 1).trans rfl, (blk_cell BK499.out 2).trans rfl, (blk_cell BK499.out 3).trans rfl, (blk_cell BK506.out 0).trans rfl, (blk_cell BK506.out 1).trans rfl, (blk_cell BK506.out 2).trans rfl, (Kd.C_string (P := Try.prog) Try.underlying29 Try.underlying5 Try.underlying9 (Kd.C_below HR1.out HB.out))⟩ (fun hHeld => ?_)
                    clear hK K
                    refine norm_ (a' := ?_) ?_ ?_
                    rotate_left
                    · show Act.put _ (some 47) _ = _
                      simp only [sP]
                      rfl
                    refine pu (i := 11) (N := some 50) (v := ?_) (a' := ?_) #[X, X, X, X, X, X, X, X, X, X, X, X, O] rfl rfl HT_ (by kernel_rfl) (fun _ _ _ h => h) ⟨by rfl, ?_⟩ ?_ ?_
                    rotate_left
                    · intro w'; go_simp; with_reducible rfl
                    rotate_left
                    · simp only [sP]
                      rfl
                    refine pu (i := 12) (N := some 51) (v := ?_) (a' := ?_) #[X, X, X, X, X, X, X, X, X, X, X, X, X] rfl rfl HT_ (by kernel_rfl) (fun _ _ _ h => h) ⟨by rfl, ?_⟩ ?_ ?_
                    rotate_left
                    · intro w'; go_simp; with_reducible rfl
                    rotate_left
                    · simp only [sP]
                      rfl
                    refine done_ (done_of HT_.out (by kernel_rfl)) ?_
                    obtain ⟨hcz70_0, hcz70_1, hcz70_2, hfz70_0, hfz70_1, hfz70_2⟩ := cs3 BK506.out; obtain ⟨hcz71_0, hcz71_1, hcz71_2, hfz71_0, hfz71_1, hfz71_2⟩ := cs3 BK500.out
                    try go_wp2
                    refine bodyPost_ret (results_ct rfl _ _ gb500 35 #[.int .i64 t504, .int .i64 (wrap64 (rd l1 4)), .slice Ao61 t511.length co61] (0, 0) _ rfl (by (try refine sO ?_); refine blk_put (cs := #[.int .i64 t504, .int .i64 (wrap64 (rd l1 4)), .slice none 0 0]) ?_ 2 _ rfl; (try refine sO ?_); refine blk_put (cs := #[.int .i64 t504, .int .i64 0, .slice none 0 0]) ?_ 1 _ rfl; (try refine sO ?_); refine blk_put (cs := #[.int .i64 0, .int .i64 0, .slice none 0 0]) ?_ 0 _ rfl; first | exact BK500.out | (refine sO ?_; exact BK500.out)) Try.underlying35 rfl (by kernel_rfl)) rfl ?_
                    exact ⟨_, by first | rfl | (simp [errW_none, errW_some] <;> rfl) | (simp [*, errW_none, errW_some] <;> rfl), by (with_reducible repeat (first | apply Kd.R_alloc | apply Kd.R_drewN | apply Kd.R_drew)); exact Kd.R_mono (Kd.R_far (p := ⟨gb500, 2, none⟩) (Kd.R_far (p := ⟨gb500, 1, none⟩) (Kd.R_far (p := ⟨gb500, 0, none⟩) (Kd.R_types HO513.out BK500.out (by decide)) (fun _ hk => hk.2) (.int .i64 t504)) (fun _ hk => hk.2) (.int .i64 (wrap64 (rd l1 4)))) (fun _ hk => hk.2) (.slice Ao61 t511.length co61)) (fun _ hk => trivial), by repeat (first | exact sH HB.out | refine sN (w := w) ?_ | with_reducible refine sG (w := w) ?_ (by assumption))⟩
                  · rw [if_neg c40] at H
                    have c40b0 : ((strOfNums t515).toList == (strOfNums l1).toList) = false := beq_eq_false_iff_ne.mpr c40
                    have c40b1 : ((strOfNums t515).toList != (strOfNums l1).toList) = true := bne_iff_ne.mpr c40
                    simp only [Option.some.injEq, Prod.mk.injEq] at H
                    obtain ⟨rfl, rfl, rfl, rfl⟩ := H
                    go_enter Try.func22, Try.ntmps22
                    try go_wp2_with (first | ((with_reducible refine gate_dst (N := 2) rfl ?_); refine box_event rfl (N := 2) rfl (cs := #[.int .i64 a0_0, .int .i64 a0_1, .int .i64 a0_2, .int .i64 a0_3]) (t := 24) (by go_simp; try rfl) ?_; intro gb499 hg w72 hbox hb; have BK499 := Aside0.mk (hbox); have GW499 := Aside0.mk ((by rw [hg]; exact (sZ HB) : w.heap.size ≤ gb499)); have GE499 := Aside0.mk ((by rw [hg]; exact (sZ HB) : w.heap.size ≤ gb499)); replace HB := kH HB hb; clear hb hbox hg) | ((with_reducible refine gate_dst (N := 4) rfl ?_); refine box_event rfl (N := 4) rfl (cs := #[.int .i64 0, .int .i64 0, .slice none 0 0]) (t := 35) (by go_simp; try rfl) ?_; intro gb500 hg w73 hbox hb; have BK500 := Aside0.mk (hbox); have GW500 := Aside0.mk ((by rw [hg]; exact (below_size (by repeat (first | exact sH HB.out | refine sN (w := w) ?_ | with_reducible refine sG (w := w) ?_ (by assumption)))) : w.heap.size ≤ gb500)); have GE500 := Aside0.mk ((by rw [hg]; exact (below_size (by repeat (first | exact sH HB.out | refine sN (w := w) ?_ | with_reducible refine sG (w := w) ?_ (by assumption)))) : w.heap.size ≤ gb500)); replace HB := Aside0.mk (below_step (by repeat (first | exact sH HB.out | refine sN (w := w) ?_ | with_reducible refine sG (w := w) ?_ (by assumption))) hb); have NB499_500 := Aside0.mk ((by rw [hg]; exact Nat.ne_of_lt (blk_lt (g := gb499) (o := .cells #[.int .i64 a0_0, .int .i64 a0_1, .int .i64 a0_2, .int .i64 a0_3] 24 (0, 0)) (by first | exact BK499.out | (refine sO ?_; exact BK499.out))) : gb499 ≠ gb500)); have NB500_499 := Aside0.mk ((by rw [hg]; exact Nat.ne_of_gt (blk_lt (g := gb499) (o := .cells #[.int .i64 a0_0, .int .i64 a0_1, .int .i64 a0_2, .int .i64 a0_3] 24 (0, 0)) (by first | exact BK499.out | (refine sO ?_; exact BK499.out))) : gb500 ≠ gb499)); replace BK499 := kB BK499 hb; clear hb hbox hg; have hnb74 := NB499_500.out; have hnc74 := NB500_499.out; obtain ⟨hcz75_0, hcz75_1, hcz75_2, hcz75_3, hfz75_0, hfz75_1, hfz75_2, hfz75_3⟩ := cs4 BK499.out) | ((with_reducible refine gate_callee (f := 41) rfl ?_); refine goesL_ (some 9) rfl rfl Try.func41 (by kernel_rfl) rfl #[.agg #[.int .i64 a0_0, .int .i64 a0_1, .int .i64 a0_2, .int .i64 a0_3]] rfl (by (try simp only [sM]); first | done | rfl | (simp only [sT]; rfl)) ?_; (with_reducible refine (twoslotref06_May.calls a0_0 a0_1 a0_2 a0_3 true _ A3.out).mono ?_); rintro e w76 ⟨rfl, hb⟩; refine ⟨_, rfl, ?_⟩; replace BK499 := kB BK499 hb; replace BK500 := kB BK500 hb; replace HB := Aside0.mk (below_step (by repeat (first | exact sH HB.out | refine sN (w := w) ?_ | with_reducible refine sG (w := w) ?_ (by assumption))) hb); (try clear hb); (try clear hb2); (try clear hk); (try clear hi); obtain ⟨hcz77_0, hcz77_1, hcz77_2, hcz77_3, hfz77_0, hfz77_1, hfz77_2, hfz77_3⟩ := cs4 BK499.out) | ((with_reducible refine gate_callee (f := 47) rfl ?_); refine goesL_ (some 15) rfl rfl Try.func47 (by kernel_rfl) rfl #[.agg #[.int .i64 a0_0, .int .i64 a0_1, .int .i64 a0_2, .int .i64 a0_3]] rfl (by (try simp only [sM]); first | done | rfl | (simp only [sT]; rfl)) ?_; (with_reducible refine (twoslotref06_W.calls a0_0 a0_1 a0_2 a0_3 t502 _ A5.out).mono ?_); rintro e w78 ⟨rfl, hb⟩; refine ⟨_, rfl, ?_⟩; replace BK499 := kB BK499 hb; replace BK500 := kB BK500 hb; replace HB := Aside0.mk (below_step (by repeat (first | exact sH HB.out | refine sN (w := w) ?_ | with_reducible refine sG (w := w) ?_ (by assumption))) hb); (try clear hb); (try clear hb2); (try clear hk); (try clear hi)))
                    replace BK499 := Aside0.mk (blk_drew BK499.out); replace BK500 := Aside0.mk (blk_drew BK500.out); replace HB := Aside0.mk (below_drew1 HB.out)
                    obtain ⟨i080, hi080, _, hsz80, _⟩ := info_parts info5
                    obtain ⟨hcut80, hA80, hC80⟩ := print_take_of (P := Try.prog) (Value.int .u8) 0 29 5 .i64 Try.underlying29 hi080 hsz80 A1 c1 l1 4 (by omega) (of_decide_eq_true (by first | (with_reducible assumption) | assumption)) HC1.out
                    have HR503 := Aside0.mk (Kd.C_of_reads (h1 := fun _ => rfl) (hA80 _ (Kd.reads_of_C HR1.out)))
                    have HC503 := Aside0.mk hC80
                    clear hA80 hC80 hi080 hsz80
                    have p505 : 0 ≤ (4 : Int) := (by omega)
                    have q505 : 4 < (l1.length : Int) := of_decide_eq_true (by first | (with_reducible assumption) | assumption)
                    obtain ⟨ad505, e505, hx505_0⟩ := Kd.at_int HR1.out 4 p505 q505
                    have hw505_0 := hx505_0
                    (try rw [show ((4 : Int)).toNat = 4 from rfl] at hw505_0)
                    (try rw [show 4 * 1 = 4 from rfl] at hw505_0)
                    (try simp only [Nat.reduceMul, Nat.reduceEqDiff, Go.Addr.add, ↓reduceIte] at hw505_0)
                    cases e505
                    (try simp only [show (4 : Int).toNat = 4 from rfl, Nat.reduceMul, Nat.reduceEqDiff, Go.Addr.add, ↓reduceIte] at hx505_0)
                    have qi505 : (4 < l1.length) = True := eq_true (by omega)
                    (try rw [show ((4 : Int)).toNat = 4 from rfl] at hx505_0)
                    replace hx505_0 := (HB.out.cell (World.block_lt_of_cell? w _ hx505_0)).trans hx505_0
                    replace p505 := eq_true p505
                    replace q505 := eq_true q505
                    refine start_ (n := 10) (S := fun w' => w'.cell? ⟨ad505.block, ad505.off + 4, none⟩ = some (.int .u8 (rd l1 4))) (ds := []) #[O, O, O, O, O, O, O, O, O, O] (by kernel_rfl) rfl rfl (((HB.out.cell (World.block_lt_of_cell? w _ hw505_0)).trans hw505_0)) (fun hHeld => ?_); refine with_tabW twoslotref15_Parse.tab5 twoslotref15_Parse.bits5 (fun HT_ HW_ => ?_)
                    generalize w78.drew = w79 at BK499 BK500 HB HR503 hx505_0 hHeld ⊢
                    refine pu (i := 0) (N := some 18) (v := ?_) (a' := ?_) #[X, O, O, O, O, O, O, O, O, O] rfl rfl HT_ (by kernel_rfl) (fun _ _ _ h => h) ⟨by rfl, ?_⟩ ?_ ?_
                    rotate_left
                    · intro w'; go_simp; with_reducible rfl
                    rotate_left
                    · simp only [sP]
                      rfl
                    refine pu (i := 1) (N := some 19) (v := ?_) (a' := ?_) #[X, X, O, O, O, O, O, O, O, O] rfl rfl HT_ (by kernel_rfl) (fun _ _ _ h => h) ⟨by rfl, ?_⟩ ?_ ?_
                    rotate_left
                    · intro w'; go_simp; with_reducible rfl
                    rotate_left
                    · simp only [sP]
                      rfl
                    refine pu (i := 3) (N := some 21) (v := ?_) (a' := ?_) #[X, X, O, X, O, O, O, O, O, O] rfl rfl HT_ (by kernel_rfl) (fun _ _ _ h => h) ⟨by rfl, ?_⟩ ?_ ?_
                    rotate_left
                    · intro w'; go_simp; with_reducible rfl
                    rotate_left
                    · simp only [sP]
                      rfl
                    refine pu (i := 4) (N := some 22) (v := ?_) (a' := ?_) #[X, X, O, X, X, O, O, O, O, O] rfl rfl HT_ (by kernel_rfl) (fun _ _ _ h => h) ⟨by rfl, ?_⟩ ?_ ?_
                    rotate_left
                    · intro w'; go_simp; with_reducible rfl
                    rotate_left
                    · simp only [sP]
                      rfl
                    refine tu (i := 5) (N := some 23) (v := ?_) (a' := ?_) #[X, X, O, X, X, X, O, O, O, O] rfl rfl HT_ HW_ (by kernel_rfl) (fun _ _ _ h => h) ⟨by rfl, ?_⟩ hHeld ?_ ?_
                    rotate_left
                    · intro w' s0
                      go_simp
                      with_reducible rfl
                    rotate_left
                    · simp only [sP]
                      rfl
                    refine pu (i := 6) (N := some 24) (v := ?_) (a' := ?_) #[X, X, O, X, X, X, X, O, O, O] rfl rfl HT_ (by kernel_rfl) (fun _ _ _ h => h) ⟨by rfl, ?_⟩ ?_ ?_
                    rotate_left
                    · intro w'; go_simp; with_reducible rfl
                    rotate_left
                    · simp only [sP]
                      rfl
                    refine join_ (σ := Nat) 1 #[X, X, X, X, X, X, X, X, X, O] (fun s_ => [(20, .int .i64 t504), (6, .pointer (some ⟨s_, 0, none⟩)), (25, .agg #[.int .i64 t504, .int .i64 (wrap64 (rd l1 4)), .slice none 0 0])]) (fun s_ w' => (w'.cell? ⟨ad505.block, ad505.off + 4, none⟩ = some (.int .u8 (rd l1 4))) ∧ (w'.heap[gb499]? = some (.cells #[.int .i64 a0_0, .int .i64 a0_1, .int .i64 a0_2, .int .i64 a0_3] 24 (0, 0))) ∧ (w'.heap[gb500]? = some (.cells #[.int .i64 0, .int .i64 0, .slice none 0 0] 35 (0, 0))) ∧ (w'.heap[s_]? = some (.cells #[.int .i64 0, .int .i64 0, .slice none 0 0] 35 (0, 0))) ∧ (w.heap.size ≤ s_) ∧ (w.heap.size ≤ s_) ∧ (gb499 ≠ s_) ∧ (s_ ≠ gb499) ∧ (gb500 ≠ s_) ∧ (s_ ≠ gb500) ∧ (Below w.heap.size w w')) ?_ ?_
                    rotate_left
                    · intro hCont
                      refine two_ (i := 2) (j := 8) (Ni := some 20) (Nj := some 6) #[X, X, X, X, X, X, X, O, O, O] #[X, X, O, X, X, X, X, O, X, O] rfl rfl rfl rfl (two_of HT_.out (by kernel_rfl)) (by decide) (by decide) (fun K hK => ?_) (fun K hK => ?_)
                      · skip
                        refine goes_ Try.func48 (by kernel_rfl) rfl #[.slice (some ad505) (l1.take 4).length c1] (by rfl) rfl rfl (by (try simp only [List.map_toArray, List.map_cons, List.map_nil]); first | done | (rw [show (l1.take 4).length = 4 from (by rw [List.length_take]; have h_ : (4 : Int) ≤ (l1.length : Int) := of_decide_eq_true (by first | (with_reducible assumption) | assumption); omega)] <;> rfl) | rfl | (simp only [List.length_drop, List.length_take]; rfl)) ?_
                        with_reducible refine (twoslotref15_worth.calls k _ _ (l1.take 4) t504 _ ?side1 ?side2 A8.out).mono ?_
                        (case side1 => exact sC (Kd.C_below HR503.out HB.out))
                        (case side2 => exact HC503.out)
                        rintro e w' ⟨rfl, ⟨nd, rfl⟩⟩
                        refine ⟨_, rfl, ?_⟩
                        refine hK.out _ _ (((HB.out.cell (World.block_lt_of_cell? w _ hw505_0)).trans hw505_0)) (fun hHeld => ?_)
                        clear hK K
                        refine norm_ (a' := ?_) ?_ ?_
                        rotate_left
                        · show Act.put _ (some 20) _ = _
                          simp only [sP]
                          rfl
                        refine pu (i := 7) (N := some 25) (v := ?_) (a' := ?_) #[X, X, X, X, X, X, X, X, O, O] rfl rfl HT_ (by kernel_rfl) (fun _ _ _ h => h) ⟨by rfl, ?_⟩ ?_ ?_
                        rotate_left
                        · intro w'; go_simp; with_reducible rfl
                        rotate_left
                        · simp only [sP]
                          rfl
                        refine one_ (i := 8) (N := some 6) #[X, X, X, X, X, X, X, X, X, O] rfl rfl (one_of HT_.out (by kernel_rfl)) (by decide) (fun K hK => ?_)
                        refine box_step ?hg (N := 6) ?hd (cs := #[.int .i64 0, .int .i64 0, .slice none 0 0]) (t := 35) ?hr ?_; (case hd => rfl); (case hg => rfl); (case hr => first | (go_simp; done) | (go_simp; rfl))
                        intro gb506 hg w81 hbox hb
                        have BK506 := Aside0.mk (hbox); have GW506 := Aside0.mk ((by rw [hg]; exact (below_size (by repeat (first | exact sH HB.out | refine sN (w := w) ?_ | with_reducible refine sG (w := w) ?_ (by assumption)))) : w.heap.size ≤ gb506)); have GE506 := Aside0.mk ((by rw [hg]; exact (below_size (by repeat (first | exact sH HB.out | refine sN (w := w) ?_ | with_reducible refine sG (w := w) ?_ (by assumption)))) : w.heap.size ≤ gb506)); replace HB := Aside0.mk (below_step (by repeat (first | exact sH HB.out | refine sN (w := w) ?_ | with_reducible refine sG (w := w) ?_ (by assumption))) hb); have NB499_506 := Aside0.mk ((by rw [hg]; exact Nat.ne_of_lt (blk_lt (g := gb499) (o := .cells #[.int .i64 a0_0, .int .i64 a0_1, .int .i64 a0_2, .int .i64 a0_3] 24 (0, 0)) (by first | exact BK499.out | (refine sO ?_; exact BK499.out))) : gb499 ≠ gb506)); have NB506_499 := Aside0.mk ((by rw [hg]; exact Nat.ne_of_gt (blk_lt (g := gb499) (o := .cells #[.int .i64 a0_0, .int .i64 a0_1, .int .i64 a0_2, .int .i64 a0_3] 24 (0, 0)) (by first | exact BK499.out | (refine sO ?_; exact BK499.out))) : gb506 ≠ gb499)); replace BK499 := kB BK499 hb; have NB500_506 := Aside0.mk ((by rw [hg]; exact Nat.ne_of_lt (blk_lt (g := gb500) (o := .cells #[.int .i64 0, .int .i64 0, .slice none 0 0] 35 (0, 0)) (by first | exact BK500.out | (refine sO ?_; exact BK500.out))) : gb500 ≠ gb506)); have NB506_500 := Aside0.mk ((by rw [hg]; exact Nat.ne_of_gt (blk_lt (g := gb500) (o := .cells #[.int .i64 0, .int .i64 0, .slice none 0 0] 35 (0, 0)) (by first | exact BK500.out | (refine sO ?_; exact BK500.out))) : gb506 ≠ gb500)); replace BK500 := kB BK500 hb
                        clear hb hbox hg
                        refine hK.out _ _ (((HB.out.cell (World.block_lt_of_cell? w _ hw505_0)).trans hw505_0)) (fun hHeld => ?_)
                        clear hK K
                        refine norm_ (a' := ?_) ?_ ?_
                        rotate_left
                        · show Act.put _ (some 6) _ = _
                          simp only [sP]
                          rfl
                        exact norm_ (by simp only [putAll, Act.put, List.setIfInBounds_toArray, List.set_cons_zero, List.set_cons_succ]) (hCont (gb506) _ ⟨hHeld, (by first | exact BK499.out | (refine sO ?_; exact BK499.out)), (by first | exact BK500.out | (refine sO ?_; exact BK500.out)), (by first | exact BK506.out | (refine sO ?_; exact BK506.out)), GW506.out, GE506.out, NB499_506.out, NB506_499.out, NB500_506.out, NB506_500.out, (by repeat (first | exact sH HB.out | refine sN (w := w) ?_ | with_reducible refine sG (w := w) ?_ (by assumption)))⟩)
                      · skip
                        refine box_step ?hg (N := 6) ?hd (cs := #[.int .i64 0, .int .i64 0, .slice none 0 0]) (t := 35) ?hr ?_; (case hd => rfl); (case hg => rfl); (case hr => first | (go_simp; done) | (go_simp; rfl))
                        intro gb506 hg w81 hbox hb
                        have BK506 := Aside0.mk (hbox); have GW506 := Aside0.mk ((by rw [hg]; exact (below_size (by repeat (first | exact sH HB.out | refine sN (w := w) ?_ | with_reducible refine sG (w := w) ?_ (by assumption)))) : w.heap.size ≤ gb506)); have GE506 := Aside0.mk ((by rw [hg]; exact (below_size (by repeat (first | exact sH HB.out | refine sN (w := w) ?_ | with_reducible refine sG (w := w) ?_ (by assumption)))) : w.heap.size ≤ gb506)); replace HB := Aside0.mk (below_step (by repeat (first | exact sH HB.out | refine sN (w := w) ?_ | with_reducible refine sG (w := w) ?_ (by assumption))) hb); have NB499_506 := Aside0.mk ((by rw [hg]; exact Nat.ne_of_lt (blk_lt (g := gb499) (o := .cells #[.int .i64 a0_0, .int .i64 a0_1, .int .i64 a0_2, .int .i64 a0_3] 24 (0, 0)) (by first | exact BK499.out | (refine sO ?_; exact BK499.out))) : gb499 ≠ gb506)); have NB506_499 := Aside0.mk ((by rw [hg]; exact Nat.ne_of_gt (blk_lt (g := gb499) (o := .cells #[.int .i64 a0_0, .int .i64 a0_1, .int .i64 a0_2, .int .i64 a0_3] 24 (0, 0)) (by first | exact BK499.out | (refine sO ?_; exact BK499.out))) : gb506 ≠ gb499)); replace BK499 := kB BK499 hb; have NB500_506 := Aside0.mk ((by rw [hg]; exact Nat.ne_of_lt (blk_lt (g := gb500) (o := .cells #[.int .i64 0, .int .i64 0, .slice none 0 0] 35 (0, 0)) (by first | exact BK500.out | (refine sO ?_; exact BK500.out))) : gb500 ≠ gb506)); have NB506_500 := Aside0.mk ((by rw [hg]; exact Nat.ne_of_gt (blk_lt (g := gb500) (o := .cells #[.int .i64 0, .int .i64 0, .slice none 0 0] 35 (0, 0)) (by first | exact BK500.out | (refine sO ?_; exact BK500.out))) : gb506 ≠ gb500)); replace BK500 := kB BK500 hb
                        clear hb hbox hg
                        refine hK.out _ _ (((HB.out.cell (World.block_lt_of_cell? w _ hw505_0)).trans hw505_0)) (fun hHeld => ?_)
                        clear hK K
                        refine norm_ (a' := ?_) ?_ ?_
                        rotate_left
                        · show Act.put _ (some 6) _ = _
                          simp only [sP]
                          rfl
                        refine one_ (i := 2) (N := some 20) #[X, X, X, X, X, X, X, O, X, O] rfl rfl (one_of HT_.out (by kernel_rfl)) (by decide) (fun K hK => ?_)
                        refine goes_ Try.func48 (by kernel_rfl) rfl #[.slice (some ad505) (l1.take 4).length c1] (by rfl) rfl rfl (by (try simp only [List.map_toArray, List.map_cons, List.map_nil]); first | done | (rw [show (l1.take 4).length = 4 from (by rw [List.length_take]; have h_ : (4 : Int) ≤ (l1.length : Int) := of_decide_eq_true (by first | (with_reducible assumption) | assumption); omega)] <;> rfl) | rfl | (simp only [List.length_drop, List.length_take]; rfl)) ?_
                        with_reducible refine (twoslotref15_worth.calls k _ _ (l1.take 4) t504 _ ?side1 ?side2 A8.out).mono ?_
                        (case side1 => exact sC (Kd.C_below HR503.out HB.out))
                        (case side2 => exact HC503.out)
                        rintro e w' ⟨rfl, ⟨nd, rfl⟩⟩
                        refine ⟨_, rfl, ?_⟩
                        refine hK.out _ _ (((HB.out.cell (World.block_lt_of_cell? w _ hw505_0)).trans hw505_0)) (fun hHeld => ?_)
                        clear hK K
                        refine norm_ (a' := ?_) ?_ ?_
                        rotate_left
                        · show Act.put _ (some 20) _ = _
                          simp only [sP]
                          rfl
                        refine pu (i := 7) (N := some 25) (v := ?_) (a' := ?_) #[X, X, X, X, X, X, X, X, X, O] rfl rfl HT_ (by kernel_rfl) (fun _ _ _ h => h) ⟨by rfl, ?_⟩ ?_ ?_
                        rotate_left
                        · intro w'; go_simp; with_reducible rfl
                        rotate_left
                        · simp only [sP]
                          rfl
                        exact norm_ (by simp only [putAll, Act.put, List.setIfInBounds_toArray, List.set_cons_zero, List.set_cons_succ]) (hCont (gb506) _ ⟨hHeld, (by first | exact BK499.out | (refine sO ?_; exact BK499.out)), (by first | exact BK500.out | (refine sO ?_; exact BK500.out)), (by first | exact BK506.out | (refine sO ?_; exact BK506.out)), GW506.out, GE506.out, NB499_506.out, NB506_499.out, NB500_506.out, NB506_500.out, (by repeat (first | exact sH HB.out | refine sN (w := w) ?_ | with_reducible refine sG (w := w) ?_ (by assumption)))⟩)
                    rintro gb506 w82 ⟨hS_, h0_, h1_, h2_, h3_, h4_, h5_, h6_, h7_, h8_, h9_⟩
                    have n0_ : Aside0 (w82.heap[gb499]? = some (.cells #[.int .i64 a0_0, .int .i64 a0_1, .int .i64 a0_2, .int .i64 a0_3] 24 (0, 0))) := ⟨h0_⟩
                    have n1_ : Aside0 (w82.heap[gb500]? = some (.cells #[.int .i64 0, .int .i64 0, .slice none 0 0] 35 (0, 0))) := ⟨h1_⟩
                    have n2_ : Aside0 (w82.heap[gb506]? = some (.cells #[.int .i64 0, .int .i64 0, .slice none 0 0] 35 (0, 0))) := ⟨h2_⟩
                    have n3_ : Aside0 (w.heap.size ≤ gb506) := ⟨h3_⟩
                    have n4_ : Aside0 (w.heap.size ≤ gb506) := ⟨h4_⟩
                    have n5_ : Aside0 (gb499 ≠ gb506) := ⟨h5_⟩
                    have n6_ : Aside0 (gb506 ≠ gb499) := ⟨h6_⟩
                    have n7_ : Aside0 (gb500 ≠ gb506) := ⟨h7_⟩
                    have n8_ : Aside0 (gb506 ≠ gb500) := ⟨h8_⟩
                    have n9_ : Aside0 (Below w.heap.size w w82) := ⟨h9_⟩
                    clear BK499; clear BK500; clear HB
                    clear h0_ h1_ h2_ h3_ h4_ h5_ h6_ h7_ h8_ h9_
                    have BK499 := n0_; have BK500 := n1_; have BK506 := n2_; have GW506 := n3_; have GE506 := n4_; have NB499_506 := n5_; have NB506_499 := n6_; have NB500_506 := n7_; have NB506_500 := n8_; have HB := n9_; clear n0_ n1_ n2_ n3_ n4_ n5_ n6_ n7_ n8_ n9_
                    have hHeld : w82.cell? ⟨ad505.block, ad505.off + 4, none⟩ = some (.int .u8 (rd l1 4)) := hS_
                    refine norm_ (a' := ?_) ?_ ?_
                    rotate_left
                    · simp only [putAll, Act.put, List.setIfInBounds_toArray, List.set_cons_zero, List.set_cons_succ]
                      rfl
                    refine one_ (i := 9) (N := none) #[X, X, X, X, X, X, X, X, X, X] rfl rfl (one_of HT_.out (by kernel_rfl)) (by decide) (fun K hK => ?_)
                    have hs83 : w82.cell? ⟨gb506, 0, none⟩ = some (.int .i64 0) := (blk_cell BK506.out 0).trans rfl
                    have hfs83 := blk_frozen BK506.out 0
                    have hns83_0 := NB499_506.out
                    have hns83_1 := NB500_506.out
                    have hms83_0 := NB506_499.out
                    have hms83_1 := NB506_500.out
                    have hs84 : w82.cell? ⟨gb506, 1, none⟩ = some (.int .i64 0) := (blk_cell BK506.out 1).trans rfl
                    have hfs84 := blk_frozen BK506.out 1
                    have hns84_0 := NB499_506.out
                    have hns84_1 := NB500_506.out
                    have hms84_0 := NB506_499.out
                    have hms84_1 := NB506_500.out
                    have hs85 : w82.cell? ⟨gb506, 2, none⟩ = some (.slice none 0 0) := (blk_cell BK506.out 2).trans rfl
                    have hfs85 := blk_frozen BK506.out 2
                    have hns85_0 := NB499_506.out
                    have hns85_1 := NB500_506.out
                    have hms85_0 := NB506_499.out
                    have hms85_1 := NB506_500.out
                    refine skip_ (w1 := ?_) (by rfl) rfl ?_ ?_
                    rotate_left
                    · go_simp
                      rfl
                    refine hK.out _ _ (((cell_far (p := ⟨gb506, _, none⟩) (by first | exact Nat.ne_of_lt (Nat.lt_of_lt_of_le (by have := World.block_lt_of_cell? _ _ hw505_0; first | rwa [add_block] at this | exact this) GW506.out) | (rw [add_block]; exact Nat.ne_of_lt (Nat.lt_of_lt_of_le (by have := World.block_lt_of_cell? _ _ hw505_0; first | rwa [add_block] at this | exact this) GW506.out)) | (show (Addr.add _ _).block ≠ _; rw [add_block]; exact Nat.ne_of_lt (Nat.lt_of_lt_of_le (by have := World.block_lt_of_cell? _ _ hw505_0; first | rwa [add_block] at this | exact this) GW506.out)) | (dsimp only; exact Nat.ne_of_lt (Nat.lt_of_lt_of_le (by have := World.block_lt_of_cell? _ _ hw505_0; first | rwa [add_block] at this | exact this) GW506.out))) _).trans (((cell_far (p := ⟨gb506, _, none⟩) (by first | exact Nat.ne_of_lt (Nat.lt_of_lt_of_le (by have := World.block_lt_of_cell? _ _ hw505_0; first | rwa [add_block] at this | exact this) GW506.out) | (rw [add_block]; exact Nat.ne_of_lt (Nat.lt_of_lt_of_le (by have := World.block_lt_of_cell? _ _ hw505_0; first | rwa [add_block] at this | exact this) GW506.out)) | (show (Addr.add _ _).block ≠ _; rw [add_block]; exact Nat.ne_of_lt (Nat.lt_of_lt_of_le (by have := World.block_lt_of_cell? _ _ hw505_0; first | rwa [add_block] at this | exact this) GW506.out)) | (dsimp only; exact Nat.ne_of_lt (Nat.lt_of_lt_of_le (by have := World.block_lt_of_cell? _ _ hw505_0; first | rwa [add_block] at this | exact this) GW506.out))) _).trans (((cell_far (p := ⟨gb506, _, none⟩) (by first | exact Nat.ne_of_lt (Nat.lt_of_lt_of_le (by have := World.block_lt_of_cell? _ _ hw505_0; first | rwa [add_block] at this | exact this) GW506.out) | (rw [add_block]; exact Nat.ne_of_lt (Nat.lt_of_lt_of_le (by have := World.block_lt_of_cell? _ _ hw505_0; first | rwa [add_block] at this | exact this) GW506.out)) | (show (Addr.add _ _).block ≠ _; rw [add_block]; exact Nat.ne_of_lt (Nat.lt_of_lt_of_le (by have := World.block_lt_of_cell? _ _ hw505_0; first | rwa [add_block] at this | exact this) GW506.out)) | (dsimp only; exact Nat.ne_of_lt (Nat.lt_of_lt_of_le (by have := World.block_lt_of_cell? _ _ hw505_0; first | rwa [add_block] at this | exact this) GW506.out))) _).trans (hHeld))))))) (fun hHeld => ?_)
                    clear hK K
                    refine done_ (done_of HT_.out (by kernel_rfl)) ?_
                    obtain ⟨i086, hi086, _, hsz86, _⟩ := info_parts info5
                    obtain ⟨A86, hcut86, hA86, hC86⟩ := print_mid_of (P := Try.prog) (Value.int .u8) 0 29 5 .i64 .i64 Try.underlying29 hi086 hsz86 (some ad505) c1 l1 5 7 (by omega) (by first | omega | exact of_decide_eq_true (by first | (with_reducible assumption) | assumption)) (of_decide_eq_true (by first | (with_reducible assumption) | assumption)) HC1.out
                    have HR507 := Aside0.mk (Kd.C_of_reads (h1 := fun _ => rfl) (hA86 _ (Kd.reads_of_C HR1.out)))
                    have HC507 := Aside0.mk hC86
                    clear hA86 hC86 hi086 hsz86
                    try go_wp2_with (first | ((with_reducible refine gate_callee (f := 48) rfl ?_); refine goesL_ (some 28) rfl rfl Try.func48 (by kernel_rfl) rfl #[.slice A86 ((l1.take 7).drop 5).length (c1 - 5)] rfl (by (try simp only [List.map_toArray, List.map_cons, List.map_nil]); first | done | (rw [show ((l1.take 7).drop 5).length = (7 - 5) from (by rw [List.length_drop, List.length_take]; have h_ : (7 : Int) ≤ (l1.length : Int) := of_decide_eq_true (by first | (with_reducible assumption) | assumption); omega)] <;> rfl) | rfl | (simp only [List.length_drop, List.length_take]; rfl)) ?_; (with_reducible refine (twoslotref15_worth.calls k _ _ ((l1.take 7).drop 5) t508 _ ?side1 ?side2 A12.out).mono ?_); (case side1 => exact Kd.C_below HR507.out (by repeat (first | exact sH HB.out | refine sN (w := w) ?_ | with_reducible refine sG (w := w) ?_ (by assumption)))); (case side2 => exact HC507.out); rintro e w' ⟨rfl, ⟨nd, rfl⟩⟩; refine ⟨_, rfl, ?_⟩; have hnb87 := NB499_506.out; have hnc87 := NB506_499.out; obtain ⟨hcz88_0, hcz88_1, hcz88_2, hcz88_3, hfz88_0, hfz88_1, hfz88_2, hfz88_3⟩ := cs4 BK499.out) | ((with_reducible refine gate_callee (f := 49) rfl ?_); refine goesL_ (some 31) rfl rfl Try.func49 (by kernel_rfl) rfl #[.agg #[.int .i64 a0_0, .int .i64 a0_1, .int .i64 a0_2, .int .i64 a0_3]] rfl (by (try simp only [sM]); first | done | rfl | (simp only [sT]; rfl)) ?_; (with_reducible refine (twoslotref06_D.calls a0_0 a0_1 a0_2 a0_3 t509 _ A13.out).mono ?_); rintro e w89 ⟨rfl, hb⟩; refine ⟨_, rfl, ?_⟩; replace BK499 := Aside0.mk (blk_below (g := gb499) (o := .cells #[.int .i64 a0_0, .int .i64 a0_1, .int .i64 a0_2, .int .i64 a0_3] 24 (0, 0)) (by (try refine sO ?_); refine blk_far ?_ NB499_506.out _; (try refine sO ?_); refine blk_far ?_ NB499_506.out _; (try refine sO ?_); refine blk_far ?_ NB499_506.out _; first | exact BK499.out | (refine sO ?_; exact BK499.out)) hb); replace BK500 := Aside0.mk (blk_below (g := gb500) (o := .cells #[.int .i64 0, .int .i64 0, .slice none 0 0] 35 (0, 0)) (by (try refine sO ?_); refine blk_far ?_ NB500_506.out _; (try refine sO ?_); refine blk_far ?_ NB500_506.out _; (try refine sO ?_); refine blk_far ?_ NB500_506.out _; first | exact BK500.out | (refine sO ?_; exact BK500.out)) hb); replace BK506 := Aside0.mk (blk_below (g := gb506) (o := .cells #[.int .i64 t504, .int .i64 (wrap64 (rd l1 4)), .slice none 0 0] 35 (0, 0)) (by (try refine sO ?_); refine blk_put (cs := #[.int .i64 t504, .int .i64 (wrap64 (rd l1 4)), .slice none 0 0]) ?_ 2 _ rfl; (try refine sO ?_); refine blk_put (cs := #[.int .i64 t504, .int .i64 0, .slice none 0 0]) ?_ 1 _ rfl; (try refine sO ?_); refine blk_put (cs := #[.int .i64 0, .int .i64 0, .slice none 0 0]) ?_ 0 _ rfl; first | exact BK506.out | (refine sO ?_; exact BK506.out)) hb); replace HB := Aside0.mk (below_step (by repeat (first | exact sH HB.out | refine sN (w := w) ?_ | with_reducible refine sG (w := w) ?_ (by assumption))) hb); (try clear hb); (try clear hb2); (try clear hk); (try clear hi); obtain ⟨i090, hi090, _, hsz90, _⟩ := info_parts info5; obtain ⟨A90, hcut90, hA90, hC90⟩ := print_drop_of (P := Try.prog) (Value.int .u8) 0 29 5 .i64 Try.underlying29 hi090 hsz90 (some ad505) c1 l1 7 (by omega) (of_decide_eq_true (by first | (with_reducible assumption) | assumption)) HC1.out; have HR510 := Aside0.mk (Kd.C_of_reads (h1 := fun _ => rfl) (hA90 _ (Kd.reads_of_C HR1.out))); have HC510 := Aside0.mk hC90; clear hA90 hC90 hi090 hsz90) | ((with_reducible refine gate_callee (f := 50) rfl ?_); refine goesL_ (some 37) rfl rfl Try.func50 (by kernel_rfl) rfl #[.slice A90 (l1.drop 7).length (c1 - 7), .int .i64 t508] rfl (by (try simp only [List.map_toArray, List.map_cons, List.map_nil]); first | done | (rw [show (l1.drop 7).length = (l1.length - 7) from List.length_drop] <;> rfl) | rfl | (simp only [List.length_drop, List.length_take]; rfl)) ?_; (with_reducible refine (twoslotref15_read.calls k _ _ (l1.drop 7) t508 t511 _ ?side1 ?side2 A36.out).mono ?_); (case side1 => exact sC (Kd.C_below HR510.out HB.out)); (case side2 => exact HC510.out); rintro e w91 ⟨v512, rfl, ho0, hb⟩; refine ⟨_, rfl, ?_⟩; have HO513 := Aside0.mk (Kd.R_lower ho0 (below_size (by repeat (first | exact sH HB.out | refine sN (w := w) ?_ | with_reducible refine sG (w := w) ?_ (by assumption))))); replace BK499 := kB BK499 hb; replace BK500 := kB BK500 hb; replace BK506 := kB BK506 hb; replace HB := Aside0.mk (below_step (by repeat (first | exact sH HB.out | refine sN (w := w) ?_ | with_reducible refine sG (w := w) ?_ (by assumption))) hb); (try clear hb); (try clear hb2); (try clear hk); (try clear hi); (try clear ho0); obtain ⟨Ao92, co92, eo92⟩ := Kd.R_slice HO513.out; subst eo92; have hnb93 := NB506_500.out; have hnc93 := NB500_506.out; obtain ⟨hcz94_0, hcz94_1, hcz94_2, hfz94_0, hfz94_1, hfz94_2⟩ := cs3 BK506.out))
                    have n0_ : Aside0 (Kd.R k27 27 (w91.setCell ⟨gb506, 2, none⟩ (.slice Ao92 t511.length co92)) w.heap.size (fun _ => True) (.slice Ao92 t511.length co92) t511) := ⟨by (with_reducible repeat (first | apply Kd.R_alloc | apply Kd.R_drewN | apply Kd.R_drew)); exact Kd.R_mono (Kd.R_far (p := ⟨gb506, 2, none⟩) (Kd.R_types HO513.out BK506.out (by decide)) (fun _ hk => hk.2) (.slice Ao92 t511.length co92)) (fun _ hk => trivial)⟩
                    have n1_ : Aside0 ((w91.setCell ⟨gb506, 2, none⟩ (.slice Ao92 t511.length co92)).heap[gb499]? = some (.cells #[.int .i64 a0_0, .int .i64 a0_1, .int .i64 a0_2, .int .i64 a0_3] 24 (0, 0))) := ⟨by (try refine sO ?_); refine blk_far ?_ NB499_506.out _; (try refine sO ?_); exact BK499.out⟩
                    have n2_ : Aside0 ((w91.setCell ⟨gb506, 2, none⟩ (.slice Ao92 t511.length co92)).heap[gb500]? = some (.cells #[.int .i64 0, .int .i64 0, .slice none 0 0] 35 (0, 0))) := ⟨by (try refine sO ?_); refine blk_far ?_ NB500_506.out _; (try refine sO ?_); exact BK500.out⟩
                    have n3_ : Aside0 ((w91.setCell ⟨gb506, 2, none⟩ (.slice Ao92 t511.length co92)).heap[gb506]? = some (.cells #[.int .i64 t504, .int .i64 (wrap64 (rd l1 4)), .slice Ao92 t511.length co92] 35 (0, 0))) := ⟨by (try refine sO ?_); refine blk_put (cs := #[.int .i64 t504, .int .i64 (wrap64 (rd l1 4)), .slice none 0 0]) ?_ 2 _ rfl; (try refine sO ?_); exact BK506.out⟩
                    have n4_ : Aside0 (Below w.heap.size w (w91.setCell ⟨gb506, 2, none⟩ (.slice Ao92 t511.length co92))) := ⟨by repeat (first | exact sH HB.out | refine sN (w := w) ?_ | with_reducible refine sG (w := w) ?_ (by assumption))⟩
                    (try clear HO513)
                    (try clear BK499)
                    (try clear BK500)
                    (try clear BK506)
                    (try clear HB)
                    generalize (w91.setCell ⟨gb506, 2, none⟩ (.slice Ao92 t511.length co92)) = w95 at n0_ n1_ n2_ n3_ n4_ ⊢
                    have HO513 := n0_; have BK499 := n1_; have BK500 := n2_; have BK506 := n3_; have HB := n4_; clear n0_ n1_ n2_ n3_ n4_; have n0_ := Aside0.mk (Kd.R_drew HO513.out); have n1_ := Aside0.mk (blk_drew BK499.out); have n2_ := Aside0.mk (blk_drew BK500.out); have n3_ := Aside0.mk (blk_drew BK506.out); have n4_ := Aside0.mk (below_drew1 HB.out); clear HO513; clear BK499; clear BK500; clear BK506; clear HB; have HO513 := n0_; have BK499 := n1_; have BK500 := n2_; have BK506 := n3_; have HB := n4_; clear n0_ n1_ n2_ n3_ n4_
                    refine start_ (n := 13) (S := fun w' => w'.cell? ⟨gb499, 0, none⟩ = some (.int .i64 a0_0) ∧ w'.cell? ⟨gb499, 1, none⟩ = some (.int .i64 a0_1) ∧ w'.cell? ⟨gb499, 2, none⟩ = some (.int .i64 a0_2) ∧ w'.cell? ⟨gb499, 3, none⟩ = some (.int .i64 a0_3) ∧ w'.cell? ⟨gb506, 0, none⟩ = some (.int .i64 t504) ∧ w'.cell? ⟨gb506, 1, none⟩ = some (.int .i64 (wrap64 (rd l1 4))) ∧ w'.cell? ⟨gb506, 2, none⟩ = some (.slice Ao92 t511.length co92) ∧ Sem.run Try.prog (convert 29 9 (.slice (some ad505) l1.length c1)) w' = .ok (.string (strOfNums l1)) w') (ds := []) #[O, O, O, O, O, O, O, O, O, O, O, O, O] (by kernel_rfl) rfl rfl ⟨(blk_cell BK499.out 0).trans rfl, (blk_cell BK499.out 1).trans rfl, (blk_cell BK499.out 2).trans rfl, (blk_cell BK499.out 3).trans rfl, (blk_cell BK506.out 0).trans rfl, (blk_cell BK506.out 1).trans rfl, (blk_cell BK506.out 2).trans rfl, (Kd.C_string (P := Try.prog) Try.underlying29 Try.underlying5 Try.underlying9 (Kd.C_below HR1.out HB.out))⟩ (fun hHeld => ?_); refine with_tabW twoslotref15_Parse.tab10 twoslotref15_Parse.bits10 (fun HT_ HW_ => ?_)
                    generalize w95.drew = w96 at HO513 BK499 BK500 BK506 HB hHeld ⊢
                    refine tu (i := 0) (N := some 39) (v := ?_) (a' := ?_) #[X, O, O, O, O, O, O, O, O, O, O, O, O] rfl rfl HT_ HW_ (by kernel_rfl) (fun _ _ _ h => h) ⟨by rfl, ?_⟩ hHeld ?_ ?_
                    rotate_left
                    · rintro w' ⟨s0, s1, s2, s3, s4, s5, s6, s7⟩; go_simp; with_reducible rfl
                    rotate_left
                    · simp only [sP]
                      rfl
                    refine tu (i := 1) (N := some 40) (v := ?_) (a' := ?_) #[X, X, O, O, O, O, O, O, O, O, O, O, O] rfl rfl HT_ HW_ (by kernel_rfl) (fun _ _ _ h => h) ⟨by rfl, ?_⟩ hHeld ?_ ?_
                    rotate_left
                    · rintro w' ⟨s0, s1, s2, s3, s4, s5, s6, s7⟩; go_simp; with_reducible rfl
                    rotate_left
                    · simp only [sP]
                      rfl
                    refine one_ (i := 2) (N := some 41) #[X, X, X, O, O, O, O, O, O, O, O, O, O] rfl rfl (one_of HT_.out (by kernel_rfl)) (by decide) (fun K hK => ?_)
                    refine goes_ Try.func46 (by kernel_rfl) rfl #[.agg #[.int .i64 a0_0, .int .i64 a0_1, .int .i64 a0_2, .int .i64 a0_3], .agg #[.int .i64 t504, .int .i64 (wrap64 (rd l1 4)), .slice Ao92 t511.length co92]] (by rfl) rfl rfl (by (try simp only [sM]); first | done | rfl | (simp only [sT]; rfl)) ?_
                    with_reducible refine (twoslotref15_May.calls k a0_0 a0_1 a0_2 a0_3 t504 (wrap64 (rd l1 4)) _ _ t511 true _ ?side1 ?side2 A37.out).mono ?_
                    (case side1 => exact sC (Kd.R_reads' HO513.out).2.2)
                    (case side2 => exact (Kd.R_reads' HO513.out).2.1)
                    rintro e w97 ⟨rfl, hb⟩
                    refine ⟨_, rfl, ?_⟩
                    replace HO513 := Aside0.mk (Kd.R_below (sR HO513.out) hb); replace BK499 := kB BK499 hb; replace BK500 := kB BK500 hb; replace BK506 := kB BK506 hb; replace HB := Aside0.mk (below_step (by repeat (first | exact sH HB.out | refine sN (w := w) ?_ | with_reducible refine sG (w := w) ?_ (by assumption))) hb)
                    (try clear hb)
                    (try clear hb2)
                    (try clear hk)
                    (try clear hi)
                    refine hK.out _ _ ⟨(blk_cell BK499.out 0).trans rfl, (blk_cell BK499.out 1).trans rfl, (blk_cell BK499.out 2).trans rfl, (blk_cell BK499.out 3).trans rfl, (blk_cell BK506.out 0).trans rfl, (blk_cell BK506.out 1).trans rfl, (blk_cell BK506.out 2).trans rfl, (Kd.C_string (P := Try.prog) Try.underlying29 Try.underlying5 Try.underlying9 (Kd.C_below HR1.out HB.out))⟩ (fun hHeld => ?_)
                    clear hK K
                    refine norm_ (a' := ?_) ?_ ?_
                    rotate_left
                    · show Act.put _ (some 41) _ = _
                      simp only [sP]
                      rfl
                    refine pu (i := 3) (N := some 42) (v := ?_) (a' := ?_) #[X, X, X, X, O, O, O, O, O, O, O, O, O] rfl rfl HT_ (by kernel_rfl) (fun _ _ _ h => h) ⟨by rfl, ?_⟩ ?_ ?_
                    rotate_left
                    · intro w'; go_simp; with_reducible rfl
                    rotate_left
                    · simp only [sP]
                      rfl
                    refine pu (i := 4) (N := some 43) (v := ?_) (a' := ?_) #[X, X, X, X, X, O, O, O, O, O, O, O, O] rfl rfl HT_ (by kernel_rfl) (fun _ _ _ h => h) ⟨by rfl, ?_⟩ ?_ ?_
                    rotate_left
                    · intro w'; go_simp; with_reducible rfl
                    rotate_left
                    · simp only [sP]
                      rfl
                    refine pu (i := 9) (N := some 48) (v := ?_) (a' := ?_) #[X, X, X, X, X, O, O, O, O, X, O, O, O] rfl rfl HT_ (by kernel_rfl) (fun _ _ _ h => h) ⟨by rfl, ?_⟩ ?_ ?_
                    rotate_left
                    · intro w'; go_simp; with_reducible rfl
                    rotate_left
                    · simp only [sP]
                      rfl
                    refine tu (i := 5) (N := some 44) (v := ?_) (a' := ?_) #[X, X, X, X, X, X, O, O, O, X, O, O, O] rfl rfl HT_ HW_ (by kernel_rfl) (fun _ _ _ h => h) ⟨by rfl, ?_⟩ hHeld ?_ ?_
                    rotate_left
                    · rintro w' ⟨s0, s1, s2, s3, s4, s5, s6, s7⟩; go_simp; with_reducible rfl
                    rotate_left
                    · simp only [sP]
                      rfl
                    refine tu (i := 6) (N := some 45) (v := ?_) (a' := ?_) #[X, X, X, X, X, X, X, O, O, X, O, O, O] rfl rfl HT_ HW_ (by kernel_rfl) (fun _ _ _ h => h) ⟨by rfl, ?_⟩ hHeld ?_ ?_
                    rotate_left
                    · rintro w' ⟨s0, s1, s2, s3, s4, s5, s6, s7⟩; go_simp; with_reducible rfl
                    rotate_left
                    · simp only [sP]
                      rfl
                    refine tu (i := 10) (N := some 49) (v := ?_) (a' := ?_) #[X, X, X, X, X, X, X, O, O, X, X, O, O] rfl rfl HT_ HW_ (by kernel_rfl) (fun _ _ _ h => h) ⟨by rfl, ?_⟩ hHeld ?_ ?_
                    rotate_left
                    · rintro w' ⟨s0, s1, s2, s3, s4, s5, s6, s7⟩; go_simp; with_reducible rfl
                    rotate_left
                    · simp only [sP]
                      rfl
                    refine one_ (i := 7) (N := some 46) #[X, X, X, X, X, X, X, X, O, X, X, O, O] rfl rfl (one_of HT_.out (by kernel_rfl)) (by decide) (fun K hK => ?_)
                    refine goes_ Try.func40 (by kernel_rfl) rfl #[.agg #[.int .i64 a0_0, .int .i64 a0_1, .int .i64 a0_2, .int .i64 a0_3], .agg #[.int .i64 t504, .int .i64 (wrap64 (rd l1 4)), .slice Ao92 t511.length co92]] (by rfl) rfl rfl (by (try simp only [sM]); first | done | rfl | (simp only [sT]; rfl)) ?_
                    with_reducible refine (twoslotref15_Made.calls k a0_0 a0_1 a0_2 a0_3 t504 (wrap64 (rd l1 4)) _ _ t511 t515 _ ?side1 ?side2 A39.out).mono ?_
                    (case side1 => exact sC (Kd.R_reads' HO513.out).2.2)
                    (case side2 => exact (Kd.R_reads' HO513.out).2.1)
                    rintro e w98 ⟨v516, rfl, ho0, hb⟩
                    refine ⟨_, rfl, ?_⟩
                    replace HO513 := Aside0.mk (Kd.R_below (sR HO513.out) hb); have HO517 := Aside0.mk (Kd.R_lower ho0 (below_size (by repeat (first | exact sH HB.out | refine sN (w := w) ?_ | with_reducible refine sG (w := w) ?_ (by assumption))))); replace BK499 := kB BK499 hb; replace BK500 := kB BK500 hb; replace BK506 := kB BK506 hb; replace HB := Aside0.mk (below_step (by repeat (first | exact sH HB.out | refine sN (w := w) ?_ | with_reducible refine sG (w := w) ?_ (by assumption))) hb)
                    (try clear hb)
                    (try clear hb2)
                    (try clear hk)
                    (try clear hi)
                    (try clear ho0)
                    refine hK.out _ _ ⟨(blk_cell BK499.out 0).trans rfl, (blk_cell BK499.out 1).trans rfl, (blk_cell BK499.out 2).trans rfl, (blk_cell BK499.out 3).trans rfl, (blk_cell BK506.out 0).trans rfl, (blk_cell BK506.out 1).trans rfl, (blk_cell BK506.out 2).trans rfl, (Kd.C_string (P := Try.prog) Try.underlying29 Try.underlying5 Try.underlying9 (Kd.C_below HR1.out HB.out))⟩ (fun hHeld => ?_)
                    clear hK K
                    refine norm_ (a' := ?_) ?_ ?_
                    rotate_left
                    · show Act.put _ (some 46) _ = _
                      simp only [sP]
                      rfl
                    refine one_ (i := 8) (N := some 47) #[X, X, X, X, X, X, X, X, X, X, X, O, O] rfl rfl (one_of HT_.out (by kernel_rfl)) (by decide) (fun K hK => ?_)
                    have hcv99 := own_string (P := Try.prog) Try.underlying29 Try.underlying5 Try.underlying9 (Kd.own_of_R HO517.out)
                    refine value_ (w1 := ?_) (v := ?_) (by rfl) rfl ?_ ?_
                    rotate_left 2
                    · go_simp
                      constructor
                      · rfl
                      · rfl
                    clear hcv99
                    refine hK.out _ _ ⟨(blk_cell BK499.out 0).trans rfl, (blk_cell BK499.out 1).trans rfl, (blk_cell BK499.out 2).trans rfl, (blk_cell BK499.out 3).trans rfl, (blk_cell BK506.out 0).trans rfl, (blk_cell BK506.out 1).trans rfl, (blk_cell BK506.out 2).trans rfl, (Kd.C_string (P := Try.prog) Try.underlying29 Try.underlying5 Try.underlying9 (Kd.C_below HR1.out HB.out))⟩ (fun hHeld => ?_)
                    clear hK K
                    refine norm_ (a' := ?_) ?_ ?_
                    rotate_left
                    · show Act.put _ (some 47) _ = _
                      simp only [sP]
                      rfl
                    refine pu (i := 11) (N := some 50) (v := ?_) (a' := ?_) #[X, X, X, X, X, X, X, X, X, X, X, X, O] rfl rfl HT_ (by kernel_rfl) (fun _ _ _ h => h) ⟨by rfl, ?_⟩ ?_ ?_
                    rotate_left
                    · intro w'; go_simp; with_reducible rfl
                    rotate_left
                    · simp only [sP]
                      rfl
                    refine pu (i := 12) (N := some 51) (v := ?_) (a' := ?_) #[X, X, X, X, X, X, X, X, X, X, X, X, X] rfl rfl HT_ (by kernel_rfl) (fun _ _ _ h => h) ⟨by rfl, ?_⟩ ?_ ?_
                    rotate_left
                    · intro w'; go_simp; with_reducible rfl
                    rotate_left
                    · simp only [sP]
                      rfl
                    refine done_ (done_of HT_.out (by kernel_rfl)) ?_
                    obtain ⟨hcz101_0, hcz101_1, hcz101_2, hfz101_0, hfz101_1, hfz101_2⟩ := cs3 BK500.out
                    try go_wp2
                    refine bodyPost_ret (results_ct rfl _ _ gb500 35 #[.int .i64 0, .int .i64 0, .slice none 0 0] (0, 0) _ rfl (by (try refine sO ?_); refine blk_put (cs := #[.int .i64 0, .int .i64 0, .slice none 0 0]) ?_ 2 _ rfl; (try refine sO ?_); refine blk_put (cs := #[.int .i64 0, .int .i64 0, .slice none 0 0]) ?_ 1 _ rfl; (try refine sO ?_); refine blk_put (cs := #[.int .i64 0, .int .i64 0, .slice none 0 0]) ?_ 0 _ rfl; first | exact BK500.out | (refine sO ?_; exact BK500.out)) Try.underlying35 rfl (by kernel_rfl)) rfl ?_
                    exact ⟨_, by first | rfl | (simp [errW_none, errW_some] <;> rfl) | (simp [*, errW_none, errW_some] <;> rfl), by first | exact Kd.R_nil _ _ _ _ _ | exact Kd.N_nil _ _ _ _ _ | exact Kd.V_nil _ _ _ _ _ | exact Kd.Q_nil _ _ _ _ _ | exact Kd.S_nil _ _ _ _ _, by repeat (first | exact sH HB.out | refine sN (w := w) ?_ | with_reducible refine sG (w := w) ?_ (by assumption))⟩
                · replace c38 := Bool.eq_false_iff.mpr c38
                  subst c38
                  have H1 : (some (0, 0, ([] : List (S27)), 150)) = some (r1, r2, r3, r4) := by rw [if_neg (show ¬ (false = true) by decide)] at H; exact H
                  clear H
                  have H := H1
                  clear H1
                  simp only [Option.some.injEq, Prod.mk.injEq] at H
                  obtain ⟨rfl, rfl, rfl, rfl⟩ := H
                  go_enter Try.func22, Try.ntmps22
                  try go_wp2_with (first | ((with_reducible refine gate_dst (N := 2) rfl ?_); refine box_event rfl (N := 2) rfl (cs := #[.int .i64 a0_0, .int .i64 a0_1, .int .i64 a0_2, .int .i64 a0_3]) (t := 24) (by go_simp; try rfl) ?_; intro gb499 hg w102 hbox hb; have BK499 := Aside0.mk (hbox); have GW499 := Aside0.mk ((by rw [hg]; exact (sZ HB) : w.heap.size ≤ gb499)); have GE499 := Aside0.mk ((by rw [hg]; exact (sZ HB) : w.heap.size ≤ gb499)); replace HB := kH HB hb; clear hb hbox hg) | ((with_reducible refine gate_dst (N := 4) rfl ?_); refine box_event rfl (N := 4) rfl (cs := #[.int .i64 0, .int .i64 0, .slice none 0 0]) (t := 35) (by go_simp; try rfl) ?_; intro gb500 hg w103 hbox hb; have BK500 := Aside0.mk (hbox); have GW500 := Aside0.mk ((by rw [hg]; exact (below_size (by repeat (first | exact sH HB.out | refine sN (w := w) ?_ | with_reducible refine sG (w := w) ?_ (by assumption)))) : w.heap.size ≤ gb500)); have GE500 := Aside0.mk ((by rw [hg]; exact (below_size (by repeat (first | exact sH HB.out | refine sN (w := w) ?_ | with_reducible refine sG (w := w) ?_ (by assumption)))) : w.heap.size ≤ gb500)); replace HB := Aside0.mk (below_step (by repeat (first | exact sH HB.out | refine sN (w := w) ?_ | with_reducible refine sG (w := w) ?_ (by assumption))) hb); have NB499_500 := Aside0.mk ((by rw [hg]; exact Nat.ne_of_lt (blk_lt (g := gb499) (o := .cells #[.int .i64 a0_0, .int .i64 a0_1, .int .i64 a0_2, .int .i64 a0_3] 24 (0, 0)) (by first | exact BK499.out | (refine sO ?_; exact BK499.out))) : gb499 ≠ gb500)); have NB500_499 := Aside0.mk ((by rw [hg]; exact Nat.ne_of_gt (blk_lt (g := gb499) (o := .cells #[.int .i64 a0_0, .int .i64 a0_1, .int .i64 a0_2, .int .i64 a0_3] 24 (0, 0)) (by first | exact BK499.out | (refine sO ?_; exact BK499.out))) : gb500 ≠ gb499)); replace BK499 := kB BK499 hb; clear hb hbox hg; have hnb104 := NB499_500.out; have hnc104 := NB500_499.out; obtain ⟨hcz105_0, hcz105_1, hcz105_2, hcz105_3, hfz105_0, hfz105_1, hfz105_2, hfz105_3⟩ := cs4 BK499.out) | ((with_reducible refine gate_callee (f := 41) rfl ?_); refine goesL_ (some 9) rfl rfl Try.func41 (by kernel_rfl) rfl #[.agg #[.int .i64 a0_0, .int .i64 a0_1, .int .i64 a0_2, .int .i64 a0_3]] rfl (by (try simp only [sM]); first | done | rfl | (simp only [sT]; rfl)) ?_; (with_reducible refine (twoslotref06_May.calls a0_0 a0_1 a0_2 a0_3 true _ A3.out).mono ?_); rintro e w106 ⟨rfl, hb⟩; refine ⟨_, rfl, ?_⟩; replace BK499 := kB BK499 hb; replace BK500 := kB BK500 hb; replace HB := Aside0.mk (below_step (by repeat (first | exact sH HB.out | refine sN (w := w) ?_ | with_reducible refine sG (w := w) ?_ (by assumption))) hb); (try clear hb); (try clear hb2); (try clear hk); (try clear hi); obtain ⟨hcz107_0, hcz107_1, hcz107_2, hcz107_3, hfz107_0, hfz107_1, hfz107_2, hfz107_3⟩ := cs4 BK499.out) | ((with_reducible refine gate_callee (f := 47) rfl ?_); refine goesL_ (some 15) rfl rfl Try.func47 (by kernel_rfl) rfl #[.agg #[.int .i64 a0_0, .int .i64 a0_1, .int .i64 a0_2, .int .i64 a0_3]] rfl (by (try simp only [sM]); first | done | rfl | (simp only [sT]; rfl)) ?_; (with_reducible refine (twoslotref06_W.calls a0_0 a0_1 a0_2 a0_3 t502 _ A5.out).mono ?_); rintro e w108 ⟨rfl, hb⟩; refine ⟨_, rfl, ?_⟩; replace BK499 := kB BK499 hb; replace BK500 := kB BK500 hb; replace HB := Aside0.mk (below_step (by repeat (first | exact sH HB.out | refine sN (w := w) ?_ | with_reducible refine sG (w := w) ?_ (by assumption))) hb); (try clear hb); (try clear hb2); (try clear hk); (try clear hi)))
                  replace BK499 := Aside0.mk (blk_drew BK499.out); replace BK500 := Aside0.mk (blk_drew BK500.out); replace HB := Aside0.mk (below_drew1 HB.out)
                  obtain ⟨i0110, hi0110, _, hsz110, _⟩ := info_parts info5
                  obtain ⟨hcut110, hA110, hC110⟩ := print_take_of (P := Try.prog) (Value.int .u8) 0 29 5 .i64 Try.underlying29 hi0110 hsz110 A1 c1 l1 4 (by omega) (of_decide_eq_true (by first | (with_reducible assumption) | assumption)) HC1.out
                  have HR503 := Aside0.mk (Kd.C_of_reads (h1 := fun _ => rfl) (hA110 _ (Kd.reads_of_C HR1.out)))
                  have HC503 := Aside0.mk hC110
                  clear hA110 hC110 hi0110 hsz110
                  have p505 : 0 ≤ (4 : Int) := (by omega)
                  have q505 : 4 < (l1.length : Int) := of_decide_eq_true (by first | (with_reducible assumption) | assumption)
                  obtain ⟨ad505, e505, hx505_0⟩ := Kd.at_int HR1.out 4 p505 q505
                  have hw505_0 := hx505_0
                  (try rw [show ((4 : Int)).toNat = 4 from rfl] at hw505_0)
                  (try rw [show 4 * 1 = 4 from rfl] at hw505_0)
                  (try simp only [Nat.reduceMul, Nat.reduceEqDiff, Go.Addr.add, ↓reduceIte] at hw505_0)
                  cases e505
                  (try simp only [show (4 : Int).toNat = 4 from rfl, Nat.reduceMul, Nat.reduceEqDiff, Go.Addr.add, ↓reduceIte] at hx505_0)
                  have qi505 : (4 < l1.length) = True := eq_true (by omega)
                  (try rw [show ((4 : Int)).toNat = 4 from rfl] at hx505_0)
                  replace hx505_0 := (HB.out.cell (World.block_lt_of_cell? w _ hx505_0)).trans hx505_0
                  replace p505 := eq_true p505
                  replace q505 := eq_true q505
                  refine start_ (n := 10) (S := fun w' => w'.cell? ⟨ad505.block, ad505.off + 4, none⟩ = some (.int .u8 (rd l1 4))) (ds := []) #[O, O, O, O, O, O, O, O, O, O] (by kernel_rfl) rfl rfl (((HB.out.cell (World.block_lt_of_cell? w _ hw505_0)).trans hw505_0)) (fun hHeld => ?_); refine with_tabW twoslotref15_Parse.tab5 twoslotref15_Parse.bits5 (fun HT_ HW_ => ?_)
                  generalize w108.drew = w109 at BK499 BK500 HB HR503 hx505_0 hHeld ⊢
                  refine pu (i := 0) (N := some 18) (v := ?_) (a' := ?_) #[X, O, O, O, O, O, O, O, O, O] rfl rfl HT_ (by kernel_rfl) (fun _ _ _ h => h) ⟨by rfl, ?_⟩ ?_ ?_
                  rotate_left
                  · intro w'; go_simp; with_reducible rfl
                  rotate_left
                  · simp only [sP]
                    rfl
                  refine pu (i := 1) (N := some 19) (v := ?_) (a' := ?_) #[X, X, O, O, O, O, O, O, O, O] rfl rfl HT_ (by kernel_rfl) (fun _ _ _ h => h) ⟨by rfl, ?_⟩ ?_ ?_
                  rotate_left
                  · intro w'; go_simp; with_reducible rfl
                  rotate_left
                  · simp only [sP]
                    rfl
                  refine pu (i := 3) (N := some 21) (v := ?_) (a' := ?_) #[X, X, O, X, O, O, O, O, O, O] rfl rfl HT_ (by kernel_rfl) (fun _ _ _ h => h) ⟨by rfl, ?_⟩ ?_ ?_
                  rotate_left
                  · intro w'; go_simp; with_reducible rfl
                  rotate_left
                  · simp only [sP]
                    rfl
                  refine pu (i := 4) (N := some 22) (v := ?_) (a' := ?_) #[X, X, O, X, X, O, O, O, O, O] rfl rfl HT_ (by kernel_rfl) (fun _ _ _ h => h) ⟨by rfl, ?_⟩ ?_ ?_
                  rotate_left
                  · intro w'; go_simp; with_reducible rfl
                  rotate_left
                  · simp only [sP]
                    rfl
                  refine tu (i := 5) (N := some 23) (v := ?_) (a' := ?_) #[X, X, O, X, X, X, O, O, O, O] rfl rfl HT_ HW_ (by kernel_rfl) (fun _ _ _ h => h) ⟨by rfl, ?_⟩ hHeld ?_ ?_
                  rotate_left
                  · intro w' s0
                    go_simp
                    with_reducible rfl
                  rotate_left
                  · simp only [sP]
                    rfl
                  refine pu (i := 6) (N := some 24) (v := ?_) (a' := ?_) #[X, X, O, X, X, X, X, O, O, O] rfl rfl HT_ (by kernel_rfl) (fun _ _ _ h => h) ⟨by rfl, ?_⟩ ?_ ?_
                  rotate_left
                  · intro w'; go_simp; with_reducible rfl
                  rotate_left
                  · simp only [sP]
                    rfl
                  refine join_ (σ := Nat) 1 #[X, X, X, X, X, X, X, X, X, O] (fun s_ => [(20, .int .i64 t504), (6, .pointer (some ⟨s_, 0, none⟩)), (25, .agg #[.int .i64 t504, .int .i64 (wrap64 (rd l1 4)), .slice none 0 0])]) (fun s_ w' => (w'.cell? ⟨ad505.block, ad505.off + 4, none⟩ = some (.int .u8 (rd l1 4))) ∧ (w'.heap[gb499]? = some (.cells #[.int .i64 a0_0, .int .i64 a0_1, .int .i64 a0_2, .int .i64 a0_3] 24 (0, 0))) ∧ (w'.heap[gb500]? = some (.cells #[.int .i64 0, .int .i64 0, .slice none 0 0] 35 (0, 0))) ∧ (w'.heap[s_]? = some (.cells #[.int .i64 0, .int .i64 0, .slice none 0 0] 35 (0, 0))) ∧ (w.heap.size ≤ s_) ∧ (w.heap.size ≤ s_) ∧ (gb499 ≠ s_) ∧ (s_ ≠ gb499) ∧ (gb500 ≠ s_) ∧ (s_ ≠ gb500) ∧ (Below w.heap.size w w')) ?_ ?_
                  rotate_left
                  · intro hCont
                    refine two_ (i := 2) (j := 8) (Ni := some 20) (Nj := some 6) #[X, X, X, X, X, X, X, O, O, O] #[X, X, O, X, X, X, X, O, X, O] rfl rfl rfl rfl (two_of HT_.out (by kernel_rfl)) (by decide) (by decide) (fun K hK => ?_) (fun K hK => ?_)
                    · skip
                      refine goes_ Try.func48 (by kernel_rfl) rfl #[.slice (some ad505) (l1.take 4).length c1] (by rfl) rfl rfl (by (try simp only [List.map_toArray, List.map_cons, List.map_nil]); first | done | (rw [show (l1.take 4).length = 4 from (by rw [List.length_take]; have h_ : (4 : Int) ≤ (l1.length : Int) := of_decide_eq_true (by first | (with_reducible assumption) | assumption); omega)] <;> rfl) | rfl | (simp only [List.length_drop, List.length_take]; rfl)) ?_
                      with_reducible refine (twoslotref15_worth.calls k _ _ (l1.take 4) t504 _ ?side1 ?side2 A8.out).mono ?_
                      (case side1 => exact sC (Kd.C_below HR503.out HB.out))
                      (case side2 => exact HC503.out)
                      rintro e w' ⟨rfl, ⟨nd, rfl⟩⟩
                      refine ⟨_, rfl, ?_⟩
                      refine hK.out _ _ (((HB.out.cell (World.block_lt_of_cell? w _ hw505_0)).trans hw505_0)) (fun hHeld => ?_)
                      clear hK K
                      refine norm_ (a' := ?_) ?_ ?_
                      rotate_left
                      · show Act.put _ (some 20) _ = _
                        simp only [sP]
                        rfl
                      refine pu (i := 7) (N := some 25) (v := ?_) (a' := ?_) #[X, X, X, X, X, X, X, X, O, O] rfl rfl HT_ (by kernel_rfl) (fun _ _ _ h => h) ⟨by rfl, ?_⟩ ?_ ?_
                      rotate_left
                      · intro w'; go_simp; with_reducible rfl
                      rotate_left
                      · simp only [sP]
                        rfl
                      refine one_ (i := 8) (N := some 6) #[X, X, X, X, X, X, X, X, X, O] rfl rfl (one_of HT_.out (by kernel_rfl)) (by decide) (fun K hK => ?_)
                      refine box_step ?hg (N := 6) ?hd (cs := #[.int .i64 0, .int .i64 0, .slice none 0 0]) (t := 35) ?hr ?_; (case hd => rfl); (case hg => rfl); (case hr => first | (go_simp; done) | (go_simp; rfl))
                      intro gb506 hg w111 hbox hb
                      have BK506 := Aside0.mk (hbox); have GW506 := Aside0.mk ((by rw [hg]; exact (below_size (by repeat (first | exact sH HB.out | refine sN (w := w) ?_ | with_reducible refine sG (w := w) ?_ (by assumption)))) : w.heap.size ≤ gb506)); have GE506 := Aside0.mk ((by rw [hg]; exact (below_size (by repeat (first | exact sH HB.out | refine sN (w := w) ?_ | with_reducible refine sG (w := w) ?_ (by assumption)))) : w.heap.size ≤ gb506)); replace HB := Aside0.mk (below_step (by repeat (first | exact sH HB.out | refine sN (w := w) ?_ | with_reducible refine sG (w := w) ?_ (by assumption))) hb); have NB499_506 := Aside0.mk ((by rw [hg]; exact Nat.ne_of_lt (blk_lt (g := gb499) (o := .cells #[.int .i64 a0_0, .int .i64 a0_1, .int .i64 a0_2, .int .i64 a0_3] 24 (0, 0)) (by first | exact BK499.out | (refine sO ?_; exact BK499.out))) : gb499 ≠ gb506)); have NB506_499 := Aside0.mk ((by rw [hg]; exact Nat.ne_of_gt (blk_lt (g := gb499) (o := .cells #[.int .i64 a0_0, .int .i64 a0_1, .int .i64 a0_2, .int .i64 a0_3] 24 (0, 0)) (by first | exact BK499.out | (refine sO ?_; exact BK499.out))) : gb506 ≠ gb499)); replace BK499 := kB BK499 hb; have NB500_506 := Aside0.mk ((by rw [hg]; exact Nat.ne_of_lt (blk_lt (g := gb500) (o := .cells #[.int .i64 0, .int .i64 0, .slice none 0 0] 35 (0, 0)) (by first | exact BK500.out | (refine sO ?_; exact BK500.out))) : gb500 ≠ gb506)); have NB506_500 := Aside0.mk ((by rw [hg]; exact Nat.ne_of_gt (blk_lt (g := gb500) (o := .cells #[.int .i64 0, .int .i64 0, .slice none 0 0] 35 (0, 0)) (by first | exact BK500.out | (refine sO ?_; exact BK500.out))) : gb506 ≠ gb500)); replace BK500 := kB BK500 hb
                      clear hb hbox hg
                      refine hK.out _ _ (((HB.out.cell (World.block_lt_of_cell? w _ hw505_0)).trans hw505_0)) (fun hHeld => ?_)
                      clear hK K
                      refine norm_ (a' := ?_) ?_ ?_
                      rotate_left
                      · show Act.put _ (some 6) _ = _
                        simp only [sP]
                        rfl
                      exact norm_ (by simp only [putAll, Act.put, List.setIfInBounds_toArray, List.set_cons_zero, List.set_cons_succ]) (hCont (gb506) _ ⟨hHeld, (by first | exact BK499.out | (refine sO ?_; exact BK499.out)), (by first | exact BK500.out | (refine sO ?_; exact BK500.out)), (by first | exact BK506.out | (refine sO ?_; exact BK506.out)), GW506.out, GE506.out, NB499_506.out, NB506_499.out, NB500_506.out, NB506_500.out, (by repeat (first | exact sH HB.out | refine sN (w := w) ?_ | with_reducible refine sG (w := w) ?_ (by assumption)))⟩)
                    · skip
                      refine box_step ?hg (N := 6) ?hd (cs := #[.int .i64 0, .int .i64 0, .slice none 0 0]) (t := 35) ?hr ?_; (case hd => rfl); (case hg => rfl); (case hr => first | (go_simp; done) | (go_simp; rfl))
                      intro gb506 hg w111 hbox hb
                      have BK506 := Aside0.mk (hbox); have GW506 := Aside0.mk ((by rw [hg]; exact (below_size (by repeat (first | exact sH HB.out | refine sN (w := w) ?_ | with_reducible refine sG (w := w) ?_ (by assumption)))) : w.heap.size ≤ gb506)); have GE506 := Aside0.mk ((by rw [hg]; exact (below_size (by repeat (first | exact sH HB.out | refine sN (w := w) ?_ | with_reducible refine sG (w := w) ?_ (by assumption)))) : w.heap.size ≤ gb506)); replace HB := Aside0.mk (below_step (by repeat (first | exact sH HB.out | refine sN (w := w) ?_ | with_reducible refine sG (w := w) ?_ (by assumption))) hb); have NB499_506 := Aside0.mk ((by rw [hg]; exact Nat.ne_of_lt (blk_lt (g := gb499) (o := .cells #[.int .i64 a0_0, .int .i64 a0_1, .int .i64 a0_2, .int .i64 a0_3] 24 (0, 0)) (by first | exact BK499.out | (refine sO ?_; exact BK499.out))) : gb499 ≠ gb506)); have NB506_499 := Aside0.mk ((by rw [hg]; exact Nat.ne_of_gt (blk_lt (g := gb499) (o := .cells #[.int .i64 a0_0, .int .i64 a0_1, .int .i64 a0_2, .int .i64 a0_3] 24 (0, 0)) (by first | exact BK499.out | (refine sO ?_; exact BK499.out))) : gb506 ≠ gb499)); replace BK499 := kB BK499 hb; have NB500_506 := Aside0.mk ((by rw [hg]; exact Nat.ne_of_lt (blk_lt (g := gb500) (o := .cells #[.int .i64 0, .int .i64 0, .slice none 0 0] 35 (0, 0)) (by first | exact BK500.out | (refine sO ?_; exact BK500.out))) : gb500 ≠ gb506)); have NB506_500 := Aside0.mk ((by rw [hg]; exact Nat.ne_of_gt (blk_lt (g := gb500) (o := .cells #[.int .i64 0, .int .i64 0, .slice none 0 0] 35 (0, 0)) (by first | exact BK500.out | (refine sO ?_; exact BK500.out))) : gb506 ≠ gb500)); replace BK500 := kB BK500 hb
                      clear hb hbox hg
                      refine hK.out _ _ (((HB.out.cell (World.block_lt_of_cell? w _ hw505_0)).trans hw505_0)) (fun hHeld => ?_)
                      clear hK K
                      refine norm_ (a' := ?_) ?_ ?_
                      rotate_left
                      · show Act.put _ (some 6) _ = _
                        simp only [sP]
                        rfl
                      refine one_ (i := 2) (N := some 20) #[X, X, X, X, X, X, X, O, X, O] rfl rfl (one_of HT_.out (by kernel_rfl)) (by decide) (fun K hK => ?_)
                      refine goes_ Try.func48 (by kernel_rfl) rfl #[.slice (some ad505) (l1.take 4).length c1] (by rfl) rfl rfl (by (try simp only [List.map_toArray, List.map_cons, List.map_nil]); first | done | (rw [show (l1.take 4).length = 4 from (by rw [List.length_take]; have h_ : (4 : Int) ≤ (l1.length : Int) := of_decide_eq_true (by first | (with_reducible assumption) | assumption); omega)] <;> rfl) | rfl | (simp only [List.length_drop, List.length_take]; rfl)) ?_
                      with_reducible refine (twoslotref15_worth.calls k _ _ (l1.take 4) t504 _ ?side1 ?side2 A8.out).mono ?_
                      (case side1 => exact sC (Kd.C_below HR503.out HB.out))
                      (case side2 => exact HC503.out)
                      rintro e w' ⟨rfl, ⟨nd, rfl⟩⟩
                      refine ⟨_, rfl, ?_⟩
                      refine hK.out _ _ (((HB.out.cell (World.block_lt_of_cell? w _ hw505_0)).trans hw505_0)) (fun hHeld => ?_)
                      clear hK K
                      refine norm_ (a' := ?_) ?_ ?_
                      rotate_left
                      · show Act.put _ (some 20) _ = _
                        simp only [sP]
                        rfl
                      refine pu (i := 7) (N := some 25) (v := ?_) (a' := ?_) #[X, X, X, X, X, X, X, X, X, O] rfl rfl HT_ (by kernel_rfl) (fun _ _ _ h => h) ⟨by rfl, ?_⟩ ?_ ?_
                      rotate_left
                      · intro w'; go_simp; with_reducible rfl
                      rotate_left
                      · simp only [sP]
                        rfl
                      exact norm_ (by simp only [putAll, Act.put, List.setIfInBounds_toArray, List.set_cons_zero, List.set_cons_succ]) (hCont (gb506) _ ⟨hHeld, (by first | exact BK499.out | (refine sO ?_; exact BK499.out)), (by first | exact BK500.out | (refine sO ?_; exact BK500.out)), (by first | exact BK506.out | (refine sO ?_; exact BK506.out)), GW506.out, GE506.out, NB499_506.out, NB506_499.out, NB500_506.out, NB506_500.out, (by repeat (first | exact sH HB.out | refine sN (w := w) ?_ | with_reducible refine sG (w := w) ?_ (by assumption)))⟩)
                  rintro gb506 w112 ⟨hS_, h0_, h1_, h2_, h3_, h4_, h5_, h6_, h7_, h8_, h9_⟩
                  have n0_ : Aside0 (w112.heap[gb499]? = some (.cells #[.int .i64 a0_0, .int .i64 a0_1, .int .i64 a0_2, .int .i64 a0_3] 24 (0, 0))) := ⟨h0_⟩
                  have n1_ : Aside0 (w112.heap[gb500]? = some (.cells #[.int .i64 0, .int .i64 0, .slice none 0 0] 35 (0, 0))) := ⟨h1_⟩
                  have n2_ : Aside0 (w112.heap[gb506]? = some (.cells #[.int .i64 0, .int .i64 0, .slice none 0 0] 35 (0, 0))) := ⟨h2_⟩
                  have n3_ : Aside0 (w.heap.size ≤ gb506) := ⟨h3_⟩
                  have n4_ : Aside0 (w.heap.size ≤ gb506) := ⟨h4_⟩
                  have n5_ : Aside0 (gb499 ≠ gb506) := ⟨h5_⟩
                  have n6_ : Aside0 (gb506 ≠ gb499) := ⟨h6_⟩
                  have n7_ : Aside0 (gb500 ≠ gb506) := ⟨h7_⟩
                  have n8_ : Aside0 (gb506 ≠ gb500) := ⟨h8_⟩
                  have n9_ : Aside0 (Below w.heap.size w w112) := ⟨h9_⟩
                  clear BK499; clear BK500; clear HB
                  clear h0_ h1_ h2_ h3_ h4_ h5_ h6_ h7_ h8_ h9_
                  have BK499 := n0_; have BK500 := n1_; have BK506 := n2_; have GW506 := n3_; have GE506 := n4_; have NB499_506 := n5_; have NB506_499 := n6_; have NB500_506 := n7_; have NB506_500 := n8_; have HB := n9_; clear n0_ n1_ n2_ n3_ n4_ n5_ n6_ n7_ n8_ n9_
                  have hHeld : w112.cell? ⟨ad505.block, ad505.off + 4, none⟩ = some (.int .u8 (rd l1 4)) := hS_
                  refine norm_ (a' := ?_) ?_ ?_
                  rotate_left
                  · simp only [putAll, Act.put, List.setIfInBounds_toArray, List.set_cons_zero, List.set_cons_succ]
                    rfl
                  refine one_ (i := 9) (N := none) #[X, X, X, X, X, X, X, X, X, X] rfl rfl (one_of HT_.out (by kernel_rfl)) (by decide) (fun K hK => ?_)
                  have hs113 : w112.cell? ⟨gb506, 0, none⟩ = some (.int .i64 0) := (blk_cell BK506.out 0).trans rfl
                  have hfs113 := blk_frozen BK506.out 0
                  have hns113_0 := NB499_506.out
                  have hns113_1 := NB500_506.out
                  have hms113_0 := NB506_499.out
                  have hms113_1 := NB506_500.out
                  have hs114 : w112.cell? ⟨gb506, 1, none⟩ = some (.int .i64 0) := (blk_cell BK506.out 1).trans rfl
                  have hfs114 := blk_frozen BK506.out 1
                  have hns114_0 := NB499_506.out
                  have hns114_1 := NB500_506.out
                  have hms114_0 := NB506_499.out
                  have hms114_1 := NB506_500.out
                  have hs115 : w112.cell? ⟨gb506, 2, none⟩ = some (.slice none 0 0) := (blk_cell BK506.out 2).trans rfl
                  have hfs115 := blk_frozen BK506.out 2
                  have hns115_0 := NB499_506.out
                  have hns115_1 := NB500_506.out
                  have hms115_0 := NB506_499.out
                  have hms115_1 := NB506_500.out
                  refine skip_ (w1 := ?_) (by rfl) rfl ?_ ?_
                  rotate_left
                  · go_simp
                    rfl
                  refine hK.out _ _ (((cell_far (p := ⟨gb506, _, none⟩) (by first | exact Nat.ne_of_lt (Nat.lt_of_lt_of_le (by have := World.block_lt_of_cell? _ _ hw505_0; first | rwa [add_block] at this | exact this) GW506.out) | (rw [add_block]; exact Nat.ne_of_lt (Nat.lt_of_lt_of_le (by have := World.block_lt_of_cell? _ _ hw505_0; first | rwa [add_block] at this | exact this) GW506.out)) | (show (Addr.add _ _).block ≠ _; rw [add_block]; exact Nat.ne_of_lt (Nat.lt_of_lt_of_le (by have := World.block_lt_of_cell? _ _ hw505_0; first | rwa [add_block] at this | exact this) GW506.out)) | (dsimp only; exact Nat.ne_of_lt (Nat.lt_of_lt_of_le (by have := World.block_lt_of_cell? _ _ hw505_0; first | rwa [add_block] at this | exact this) GW506.out))) _).trans (((cell_far (p := ⟨gb506, _, none⟩) (by first | exact Nat.ne_of_lt (Nat.lt_of_lt_of_le (by have := World.block_lt_of_cell? _ _ hw505_0; first | rwa [add_block] at this | exact this) GW506.out) | (rw [add_block]; exact Nat.ne_of_lt (Nat.lt_of_lt_of_le (by have := World.block_lt_of_cell? _ _ hw505_0; first | rwa [add_block] at this | exact this) GW506.out)) | (show (Addr.add _ _).block ≠ _; rw [add_block]; exact Nat.ne_of_lt (Nat.lt_of_lt_of_le (by have := World.block_lt_of_cell? _ _ hw505_0; first | rwa [add_block] at this | exact this) GW506.out)) | (dsimp only; exact Nat.ne_of_lt (Nat.lt_of_lt_of_le (by have := World.block_lt_of_cell? _ _ hw505_0; first | rwa [add_block] at this | exact this) GW506.out))) _).trans (((cell_far (p := ⟨gb506, _, none⟩) (by first | exact Nat.ne_of_lt (Nat.lt_of_lt_of_le (by have := World.block_lt_of_cell? _ _ hw505_0; first | rwa [add_block] at this | exact this) GW506.out) | (rw [add_block]; exact Nat.ne_of_lt (Nat.lt_of_lt_of_le (by have := World.block_lt_of_cell? _ _ hw505_0; first | rwa [add_block] at this | exact this) GW506.out)) | (show (Addr.add _ _).block ≠ _; rw [add_block]; exact Nat.ne_of_lt (Nat.lt_of_lt_of_le (by have := World.block_lt_of_cell? _ _ hw505_0; first | rwa [add_block] at this | exact this) GW506.out)) | (dsimp only; exact Nat.ne_of_lt (Nat.lt_of_lt_of_le (by have := World.block_lt_of_cell? _ _ hw505_0; first | rwa [add_block] at this | exact this) GW506.out))) _).trans (hHeld))))))) (fun hHeld => ?_)
                  clear hK K
                  refine done_ (done_of HT_.out (by kernel_rfl)) ?_
                  obtain ⟨i0116, hi0116, _, hsz116, _⟩ := info_parts info5
                  obtain ⟨A116, hcut116, hA116, hC116⟩ := print_mid_of (P := Try.prog) (Value.int .u8) 0 29 5 .i64 .i64 Try.underlying29 hi0116 hsz116 (some ad505) c1 l1 5 7 (by omega) (by first | omega | exact of_decide_eq_true (by first | (with_reducible assumption) | assumption)) (of_decide_eq_true (by first | (with_reducible assumption) | assumption)) HC1.out
                  have HR507 := Aside0.mk (Kd.C_of_reads (h1 := fun _ => rfl) (hA116 _ (Kd.reads_of_C HR1.out)))
                  have HC507 := Aside0.mk hC116
                  clear hA116 hC116 hi0116 hsz116
                  try go_wp2_with (first | ((with_reducible refine gate_callee (f := 48) rfl ?_); refine goesL_ (some 28) rfl rfl Try.func48 (by kernel_rfl) rfl #[.slice A116 ((l1.take 7).drop 5).length (c1 - 5)] rfl (by (try simp only [List.map_toArray, List.map_cons, List.map_nil]); first | done | (rw [show ((l1.take 7).drop 5).length = (7 - 5) from (by rw [List.length_drop, List.length_take]; have h_ : (7 : Int) ≤ (l1.length : Int) := of_decide_eq_true (by first | (with_reducible assumption) | assumption); omega)] <;> rfl) | rfl | (simp only [List.length_drop, List.length_take]; rfl)) ?_; (with_reducible refine (twoslotref15_worth.calls k _ _ ((l1.take 7).drop 5) t508 _ ?side1 ?side2 A12.out).mono ?_); (case side1 => exact Kd.C_below HR507.out (by repeat (first | exact sH HB.out | refine sN (w := w) ?_ | with_reducible refine sG (w := w) ?_ (by assumption)))); (case side2 => exact HC507.out); rintro e w' ⟨rfl, ⟨nd, rfl⟩⟩; refine ⟨_, rfl, ?_⟩; have hnb117 := NB499_506.out; have hnc117 := NB506_499.out; obtain ⟨hcz118_0, hcz118_1, hcz118_2, hcz118_3, hfz118_0, hfz118_1, hfz118_2, hfz118_3⟩ := cs4 BK499.out) | ((with_reducible refine gate_callee (f := 49) rfl ?_); refine goesL_ (some 31) rfl rfl Try.func49 (by kernel_rfl) rfl #[.agg #[.int .i64 a0_0, .int .i64 a0_1, .int .i64 a0_2, .int .i64 a0_3]] rfl (by (try simp only [sM]); first | done | rfl | (simp only [sT]; rfl)) ?_; (with_reducible refine (twoslotref06_D.calls a0_0 a0_1 a0_2 a0_3 t509 _ A13.out).mono ?_); rintro e w119 ⟨rfl, hb⟩; refine ⟨_, rfl, ?_⟩; replace BK499 := Aside0.mk (blk_below (g := gb499) (o := .cells #[.int .i64 a0_0, .int .i64 a0_1, .int .i64 a0_2, .int .i64 a0_3] 24 (0, 0)) (by (try refine sO ?_); refine blk_far ?_ NB499_506.out _; (try refine sO ?_); refine blk_far ?_ NB499_506.out _; (try refine sO ?_); refine blk_far ?_ NB499_506.out _; first | exact BK499.out | (refine sO ?_; exact BK499.out)) hb); replace BK500 := Aside0.mk (blk_below (g := gb500) (o := .cells #[.int .i64 0, .int .i64 0, .slice none 0 0] 35 (0, 0)) (by (try refine sO ?_); refine blk_far ?_ NB500_506.out _; (try refine sO ?_); refine blk_far ?_ NB500_506.out _; (try refine sO ?_); refine blk_far ?_ NB500_506.out _; first | exact BK500.out | (refine sO ?_; exact BK500.out)) hb); replace BK506 := Aside0.mk (blk_below (g := gb506) (o := .cells #[.int .i64 t504, .int .i64 (wrap64 (rd l1 4)), .slice none 0 0] 35 (0, 0)) (by (try refine sO ?_); refine blk_put (cs := #[.int .i64 t504, .int .i64 (wrap64 (rd l1 4)), .slice none 0 0]) ?_ 2 _ rfl; (try refine sO ?_); refine blk_put (cs := #[.int .i64 t504, .int .i64 0, .slice none 0 0]) ?_ 1 _ rfl; (try refine sO ?_); refine blk_put (cs := #[.int .i64 0, .int .i64 0, .slice none 0 0]) ?_ 0 _ rfl; first | exact BK506.out | (refine sO ?_; exact BK506.out)) hb); replace HB := Aside0.mk (below_step (by repeat (first | exact sH HB.out | refine sN (w := w) ?_ | with_reducible refine sG (w := w) ?_ (by assumption))) hb); (try clear hb); (try clear hb2); (try clear hk); (try clear hi); obtain ⟨i0120, hi0120, _, hsz120, _⟩ := info_parts info5; obtain ⟨A120, hcut120, hA120, hC120⟩ := print_drop_of (P := Try.prog) (Value.int .u8) 0 29 5 .i64 Try.underlying29 hi0120 hsz120 (some ad505) c1 l1 7 (by omega) (of_decide_eq_true (by first | (with_reducible assumption) | assumption)) HC1.out; have HR510 := Aside0.mk (Kd.C_of_reads (h1 := fun _ => rfl) (hA120 _ (Kd.reads_of_C HR1.out))); have HC510 := Aside0.mk hC120; clear hA120 hC120 hi0120 hsz120) | ((with_reducible refine gate_callee (f := 50) rfl ?_); refine goesL_ (some 37) rfl rfl Try.func50 (by kernel_rfl) rfl #[.slice A120 (l1.drop 7).length (c1 - 7), .int .i64 t508] rfl (by (try simp only [List.map_toArray, List.map_cons, List.map_nil]); first | done | (rw [show (l1.drop 7).length = (l1.length - 7) from List.length_drop] <;> rfl) | rfl | (simp only [List.length_drop, List.length_take]; rfl)) ?_; (with_reducible refine (twoslotref15_read.calls k _ _ (l1.drop 7) t508 t511 _ ?side1 ?side2 A36.out).mono ?_); (case side1 => exact sC (Kd.C_below HR510.out HB.out)); (case side2 => exact HC510.out); rintro e w121 ⟨v512, rfl, ho0, hb⟩; refine ⟨_, rfl, ?_⟩; have HO513 := Aside0.mk (Kd.R_lower ho0 (below_size (by repeat (first | exact sH HB.out | refine sN (w := w) ?_ | with_reducible refine sG (w := w) ?_ (by assumption))))); replace BK499 := kB BK499 hb; replace BK500 := kB BK500 hb; replace BK506 := kB BK506 hb; replace HB := Aside0.mk (below_step (by repeat (first | exact sH HB.out | refine sN (w := w) ?_ | with_reducible refine sG (w := w) ?_ (by assumption))) hb); (try clear hb); (try clear hb2); (try clear hk); (try clear hi); (try clear ho0); obtain ⟨Ao122, co122, eo122⟩ := Kd.R_slice HO513.out; subst eo122; have hnb123 := NB506_500.out; have hnc123 := NB500_506.out; obtain ⟨hcz124_0, hcz124_1, hcz124_2, hfz124_0, hfz124_1, hfz124_2⟩ := cs3 BK506.out))
                  have n0_ : Aside0 (Kd.R k27 27 (w121.setCell ⟨gb506, 2, none⟩ (.slice Ao122 t511.length co122)) w.heap.size (fun _ => True) (.slice Ao122 t511.length co122) t511) := ⟨by (with_reducible repeat (first | apply Kd.R_alloc | apply Kd.R_drewN | apply Kd.R_drew)); exact Kd.R_mono (Kd.R_far (p := ⟨gb506, 2, none⟩) (Kd.R_types HO513.out BK506.out (by decide)) (fun _ hk => hk.2) (.slice Ao122 t511.length co122)) (fun _ hk => trivial)⟩
                  have n1_ : Aside0 ((w121.setCell ⟨gb506, 2, none⟩ (.slice Ao122 t511.length co122)).heap[gb499]? = some (.cells #[.int .i64 a0_0, .int .i64 a0_1, .int .i64 a0_2, .int .i64 a0_3] 24 (0, 0))) := ⟨by (try refine sO ?_); refine blk_far ?_ NB499_506.out _; (try refine sO ?_); exact BK499.out⟩
                  have n2_ : Aside0 ((w121.setCell ⟨gb506, 2, none⟩ (.slice Ao122 t511.length co122)).heap[gb500]? = some (.cells #[.int .i64 0, .int .i64 0, .slice none 0 0] 35 (0, 0))) := ⟨by (try refine sO ?_); refine blk_far ?_ NB500_506.out _; (try refine sO ?_); exact BK500.out⟩
                  have n3_ : Aside0 ((w121.setCell ⟨gb506, 2, none⟩ (.slice Ao122 t511.length co122)).heap[gb506]? = some (.cells #[.int .i64 t504, .int .i64 (wrap64 (rd l1 4)), .slice Ao122 t511.length co122] 35 (0, 0))) := ⟨by (try refine sO ?_); refine blk_put (cs := #[.int .i64 t504, .int .i64 (wrap64 (rd l1 4)), .slice none 0 0]) ?_ 2 _ rfl; (try refine sO ?_); exact BK506.out⟩
                  have n4_ : Aside0 (Below w.heap.size w (w121.setCell ⟨gb506, 2, none⟩ (.slice Ao122 t511.length co122))) := ⟨by repeat (first | exact sH HB.out | refine sN (w := w) ?_ | with_reducible refine sG (w := w) ?_ (by assumption))⟩
                  (try clear HO513)
                  (try clear BK499)
                  (try clear BK500)
                  (try clear BK506)
                  (try clear HB)
                  generalize (w121.setCell ⟨gb506, 2, none⟩ (.slice Ao122 t511.length co122)) = w125 at n0_ n1_ n2_ n3_ n4_ ⊢
                  have HO513 := n0_; have BK499 := n1_; have BK500 := n2_; have BK506 := n3_; have HB := n4_; clear n0_ n1_ n2_ n3_ n4_; have n0_ := Aside0.mk (Kd.R_drew HO513.out); have n1_ := Aside0.mk (blk_drew BK499.out); have n2_ := Aside0.mk (blk_drew BK500.out); have n3_ := Aside0.mk (blk_drew BK506.out); have n4_ := Aside0.mk (below_drew1 HB.out); clear HO513; clear BK499; clear BK500; clear BK506; clear HB; have HO513 := n0_; have BK499 := n1_; have BK500 := n2_; have BK506 := n3_; have HB := n4_; clear n0_ n1_ n2_ n3_ n4_
                  refine start_ (n := 13) (S := fun w' => w'.cell? ⟨gb499, 0, none⟩ = some (.int .i64 a0_0) ∧ w'.cell? ⟨gb499, 1, none⟩ = some (.int .i64 a0_1) ∧ w'.cell? ⟨gb499, 2, none⟩ = some (.int .i64 a0_2) ∧ w'.cell? ⟨gb499, 3, none⟩ = some (.int .i64 a0_3) ∧ w'.cell? ⟨gb506, 0, none⟩ = some (.int .i64 t504) ∧ w'.cell? ⟨gb506, 1, none⟩ = some (.int .i64 (wrap64 (rd l1 4))) ∧ w'.cell? ⟨gb506, 2, none⟩ = some (.slice Ao122 t511.length co122)) (ds := []) #[O, O, O, O, O, O, O, O, O, O, O, O, O] (by kernel_rfl) rfl rfl ⟨(blk_cell BK499.out 0).trans rfl, (blk_cell BK499.out 1).trans rfl, (blk_cell BK499.out 2).trans rfl, (blk_cell BK499.out 3).trans rfl, (blk_cell BK506.out 0).trans rfl, (blk_cell BK506.out 1).trans rfl, (blk_cell BK506.out 2).trans rfl⟩ (fun hHeld => ?_); refine with_tabW twoslotref15_Parse.tab10 twoslotref15_Parse.bits10 (fun HT_ HW_ => ?_)
                  generalize w125.drew = w126 at HO513 BK499 BK500 BK506 HB hHeld ⊢
                  refine tu (i := 0) (N := some 39) (v := ?_) (a' := ?_) #[X, O, O, O, O, O, O, O, O, O, O, O, O] rfl rfl HT_ HW_ (by kernel_rfl) (fun _ _ _ h => h) ⟨by rfl, ?_⟩ hHeld ?_ ?_
                  rotate_left
                  · rintro w' ⟨s0, s1, s2, s3, s4, s5, s6⟩; go_simp; with_reducible rfl
                  rotate_left
                  · simp only [sP]
                    rfl
                  refine tu (i := 1) (N := some 40) (v := ?_) (a' := ?_) #[X, X, O, O, O, O, O, O, O, O, O, O, O] rfl rfl HT_ HW_ (by kernel_rfl) (fun _ _ _ h => h) ⟨by rfl, ?_⟩ hHeld ?_ ?_
                  rotate_left
                  · rintro w' ⟨s0, s1, s2, s3, s4, s5, s6⟩; go_simp; with_reducible rfl
                  rotate_left
                  · simp only [sP]
                    rfl
                  refine one_ (i := 2) (N := some 41) #[X, X, X, O, O, O, O, O, O, O, O, O, O] rfl rfl (one_of HT_.out (by kernel_rfl)) (by decide) (fun K hK => ?_)
                  refine goes_ Try.func46 (by kernel_rfl) rfl #[.agg #[.int .i64 a0_0, .int .i64 a0_1, .int .i64 a0_2, .int .i64 a0_3], .agg #[.int .i64 t504, .int .i64 (wrap64 (rd l1 4)), .slice Ao122 t511.length co122]] (by rfl) rfl rfl (by (try simp only [sM]); first | done | rfl | (simp only [sT]; rfl)) ?_
                  with_reducible refine (twoslotref15_May.calls k a0_0 a0_1 a0_2 a0_3 t504 (wrap64 (rd l1 4)) _ _ t511 false _ ?side1 ?side2 A37.out).mono ?_
                  (case side1 => exact sC (Kd.R_reads' HO513.out).2.2)
                  (case side2 => exact (Kd.R_reads' HO513.out).2.1)
                  rintro e w127 ⟨rfl, hb⟩
                  refine ⟨_, rfl, ?_⟩
                  replace HO513 := Aside0.mk (Kd.R_below (sR HO513.out) hb); replace BK499 := kB BK499 hb; replace BK500 := kB BK500 hb; replace BK506 := kB BK506 hb; replace HB := Aside0.mk (below_step (by repeat (first | exact sH HB.out | refine sN (w := w) ?_ | with_reducible refine sG (w := w) ?_ (by assumption))) hb)
                  (try clear hb)
                  (try clear hb2)
                  (try clear hk)
                  (try clear hi)
                  refine hK.out _ _ ⟨(blk_cell BK499.out 0).trans rfl, (blk_cell BK499.out 1).trans rfl, (blk_cell BK499.out 2).trans rfl, (blk_cell BK499.out 3).trans rfl, (blk_cell BK506.out 0).trans rfl, (blk_cell BK506.out 1).trans rfl, (blk_cell BK506.out 2).trans rfl⟩ (fun hHeld => ?_)
                  clear hK K
                  refine norm_ (a' := ?_) ?_ ?_
                  rotate_left
                  · show Act.put _ (some 41) _ = _
                    simp only [sP]
                    rfl
                  refine pu (i := 3) (N := some 42) (v := ?_) (a' := ?_) #[X, X, X, X, O, O, O, O, O, O, O, O, O] rfl rfl HT_ (by kernel_rfl) (fun _ _ _ h => h) ⟨by rfl, ?_⟩ ?_ ?_
                  rotate_left
                  · intro w'; go_simp; with_reducible rfl
                  rotate_left
                  · simp only [sP]
                    rfl
                  refine pu (i := 4) (N := some 43) (v := ?_) (a' := ?_) #[X, X, X, X, X, O, O, O, O, O, O, O, O] rfl rfl HT_ (by kernel_rfl) (fun _ _ _ h => h) ⟨by rfl, ?_⟩ ?_ ?_
                  rotate_left
                  · intro w'; go_simp; with_reducible rfl
                  rotate_left
                  · simp only [sP]
                    rfl
                  refine pure_ (i := 5) (N := some 44) (v := undef) (a' := ?_) #[X, X, X, X, X, X, O, O, O, O, O, O, O] rfl rfl (any_of HT_.out (by kernel_rfl)) (fun _ _ _ h => h) (Or.inr ⟨by rfl, rfl⟩) ?_ ?_
                  rotate_left
                  · simp only [sP]
                    rfl
                  refine pure_ (i := 6) (N := some 45) (v := undef) (a' := ?_) #[X, X, X, X, X, X, X, O, O, O, O, O, O] rfl rfl (any_of HT_.out (by kernel_rfl)) (fun _ _ _ h => h) (Or.inr ⟨by rfl, rfl⟩) ?_ ?_
                  rotate_left
                  · simp only [sP]
                    rfl
                  refine pure_ (i := 7) (N := some 46) (v := undef) (a' := ?_) #[X, X, X, X, X, X, X, X, O, O, O, O, O] rfl rfl (any_of HT_.out (by kernel_rfl)) (fun _ _ _ h => h) (Or.inr ⟨by rfl, rfl⟩) ?_ ?_
                  rotate_left
                  · simp only [sP]
                    rfl
                  refine pure_ (i := 8) (N := some 47) (v := undef) (a' := ?_) #[X, X, X, X, X, X, X, X, X, O, O, O, O] rfl rfl (any_of HT_.out (by kernel_rfl)) (fun _ _ _ h => h) (Or.inr ⟨by rfl, rfl⟩) ?_ ?_
                  rotate_left
                  · simp only [sP]
                    rfl
                  refine pure_ (i := 9) (N := some 48) (v := undef) (a' := ?_) #[X, X, X, X, X, X, X, X, X, X, O, O, O] rfl rfl (any_of HT_.out (by kernel_rfl)) (fun _ _ _ h => h) (Or.inr ⟨by rfl, rfl⟩) ?_ ?_
                  rotate_left
                  · simp only [sP]
                    rfl
                  refine pure_ (i := 10) (N := some 49) (v := undef) (a' := ?_) #[X, X, X, X, X, X, X, X, X, X, X, O, O] rfl rfl (any_of HT_.out (by kernel_rfl)) (fun _ _ _ h => h) (Or.inr ⟨by rfl, rfl⟩) ?_ ?_
                  rotate_left
                  · simp only [sP]
                    rfl
                  refine pure_ (i := 11) (N := some 50) (v := undef) (a' := ?_) #[X, X, X, X, X, X, X, X, X, X, X, X, O] rfl rfl (any_of HT_.out (by kernel_rfl)) (fun _ _ _ h => h) (Or.inr ⟨by rfl, rfl⟩) ?_ ?_
                  rotate_left
                  · simp only [sP]
                    rfl
                  refine pu (i := 12) (N := some 51) (v := ?_) (a' := ?_) #[X, X, X, X, X, X, X, X, X, X, X, X, X] rfl rfl HT_ (by kernel_rfl) (fun _ _ _ h => h) ⟨by rfl, ?_⟩ ?_ ?_
                  rotate_left
                  · intro w'; go_simp; with_reducible rfl
                  rotate_left
                  · simp only [sP]
                    rfl
                  refine done_ (done_of HT_.out (by kernel_rfl)) ?_
                  obtain ⟨hcz128_0, hcz128_1, hcz128_2, hfz128_0, hfz128_1, hfz128_2⟩ := cs3 BK500.out
                  try go_wp2
                  refine bodyPost_ret (results_ct rfl _ _ gb500 35 #[.int .i64 0, .int .i64 0, .slice none 0 0] (0, 0) _ rfl (by (try refine sO ?_); refine blk_put (cs := #[.int .i64 0, .int .i64 0, .slice none 0 0]) ?_ 2 _ rfl; (try refine sO ?_); refine blk_put (cs := #[.int .i64 0, .int .i64 0, .slice none 0 0]) ?_ 1 _ rfl; (try refine sO ?_); refine blk_put (cs := #[.int .i64 0, .int .i64 0, .slice none 0 0]) ?_ 0 _ rfl; first | exact BK500.out | (refine sO ?_; exact BK500.out)) Try.underlying35 rfl (by kernel_rfl)) rfl ?_
                  exact ⟨_, by first | rfl | (simp [errW_none, errW_some] <;> rfl) | (simp [*, errW_none, errW_some] <;> rfl), by first | exact Kd.R_nil _ _ _ _ _ | exact Kd.N_nil _ _ _ _ _ | exact Kd.V_nil _ _ _ _ _ | exact Kd.Q_nil _ _ _ _ _ | exact Kd.S_nil _ _ _ _ _, by repeat (first | exact sH HB.out | refine sN (w := w) ?_ | with_reducible refine sG (w := w) ?_ (by assumption))⟩
            · rw [if_neg c11] at H
              exact absurd H (by simp)
          · rw [if_neg c10] at H
            exact absurd H (by simp)
        · rw [if_neg c9] at H
          exact absurd H (by simp)
      · rw [if_neg c7] at H
        exact absurd H (by simp)
    · rw [if_neg c6] at H
      have c6b0 : ((l1.length : Int) == t502) = false := beq_eq_false_iff_ne.mpr c6
      have c6b1 : ((l1.length : Int) != t502) = true := bne_iff_ne.mpr c6
      simp only [Option.some.injEq, Prod.mk.injEq] at H
      obtain ⟨rfl, rfl, rfl, rfl⟩ := H
      go_enter Try.func22, Try.ntmps22
      go_wp2_with (first | ((with_reducible refine gate_dst (N := 2) rfl ?_); refine box_event rfl (N := 2) rfl (cs := #[.int .i64 a0_0, .int .i64 a0_1, .int .i64 a0_2, .int .i64 a0_3]) (t := 24) (by go_simp; try rfl) ?_; intro gb499 hg w129 hbox hb; have BK499 := Aside0.mk (hbox); have GW499 := Aside0.mk ((by rw [hg]; exact (sZ HB) : w.heap.size ≤ gb499)); have GE499 := Aside0.mk ((by rw [hg]; exact (sZ HB) : w.heap.size ≤ gb499)); replace HB := kH HB hb; clear hb hbox hg) | ((with_reducible refine gate_dst (N := 4) rfl ?_); refine box_event rfl (N := 4) rfl (cs := #[.int .i64 0, .int .i64 0, .slice none 0 0]) (t := 35) (by go_simp; try rfl) ?_; intro gb500 hg w130 hbox hb; have BK500 := Aside0.mk (hbox); have GW500 := Aside0.mk ((by rw [hg]; exact (below_size (by repeat (first | exact sH HB.out | refine sN (w := w) ?_ | with_reducible refine sG (w := w) ?_ (by assumption)))) : w.heap.size ≤ gb500)); have GE500 := Aside0.mk ((by rw [hg]; exact (below_size (by repeat (first | exact sH HB.out | refine sN (w := w) ?_ | with_reducible refine sG (w := w) ?_ (by assumption)))) : w.heap.size ≤ gb500)); replace HB := Aside0.mk (below_step (by repeat (first | exact sH HB.out | refine sN (w := w) ?_ | with_reducible refine sG (w := w) ?_ (by assumption))) hb); have NB499_500 := Aside0.mk ((by rw [hg]; exact Nat.ne_of_lt (blk_lt (g := gb499) (o := .cells #[.int .i64 a0_0, .int .i64 a0_1, .int .i64 a0_2, .int .i64 a0_3] 24 (0, 0)) (by first | exact BK499.out | (refine sO ?_; exact BK499.out))) : gb499 ≠ gb500)); have NB500_499 := Aside0.mk ((by rw [hg]; exact Nat.ne_of_gt (blk_lt (g := gb499) (o := .cells #[.int .i64 a0_0, .int .i64 a0_1, .int .i64 a0_2, .int .i64 a0_3] 24 (0, 0)) (by first | exact BK499.out | (refine sO ?_; exact BK499.out))) : gb500 ≠ gb499)); replace BK499 := kB BK499 hb; clear hb hbox hg; have hnb131 := NB499_500.out; have hnc131 := NB500_499.out; obtain ⟨hcz132_0, hcz132_1, hcz132_2, hcz132_3, hfz132_0, hfz132_1, hfz132_2, hfz132_3⟩ := cs4 BK499.out) | ((with_reducible refine gate_callee (f := 41) rfl ?_); refine goesL_ (some 9) rfl rfl Try.func41 (by kernel_rfl) rfl #[.agg #[.int .i64 a0_0, .int .i64 a0_1, .int .i64 a0_2, .int .i64 a0_3]] rfl (by (try simp only [sM]); first | done | rfl | (simp only [sT]; rfl)) ?_; (with_reducible refine (twoslotref06_May.calls a0_0 a0_1 a0_2 a0_3 true _ A3.out).mono ?_); rintro e w133 ⟨rfl, hb⟩; refine ⟨_, rfl, ?_⟩; replace BK499 := kB BK499 hb; replace BK500 := kB BK500 hb; replace HB := Aside0.mk (below_step (by repeat (first | exact sH HB.out | refine sN (w := w) ?_ | with_reducible refine sG (w := w) ?_ (by assumption))) hb); (try clear hb); (try clear hb2); (try clear hk); (try clear hi); obtain ⟨hcz134_0, hcz134_1, hcz134_2, hcz134_3, hfz134_0, hfz134_1, hfz134_2, hfz134_3⟩ := cs4 BK499.out) | ((with_reducible refine gate_callee (f := 47) rfl ?_); refine goesL_ (some 15) rfl rfl Try.func47 (by kernel_rfl) rfl #[.agg #[.int .i64 a0_0, .int .i64 a0_1, .int .i64 a0_2, .int .i64 a0_3]] rfl (by (try simp only [sM]); first | done | rfl | (simp only [sT]; rfl)) ?_; (with_reducible refine (twoslotref06_W.calls a0_0 a0_1 a0_2 a0_3 t502 _ A5.out).mono ?_); rintro e w135 ⟨rfl, hb⟩; refine ⟨_, rfl, ?_⟩; replace BK499 := kB BK499 hb; replace BK500 := kB BK500 hb; replace HB := Aside0.mk (below_step (by repeat (first | exact sH HB.out | refine sN (w := w) ?_ | with_reducible refine sG (w := w) ?_ (by assumption))) hb); (try clear hb); (try clear hb2); (try clear hk); (try clear hi); obtain ⟨hcz136_0, hcz136_1, hcz136_2, hfz136_0, hfz136_1, hfz136_2⟩ := cs3 BK500.out))
      refine bodyPost_ret (results_ct rfl _ _ gb500 35 #[.int .i64 0, .int .i64 0, .slice none 0 0] (0, 0) _ rfl (by (try refine sO ?_); refine blk_put (cs := #[.int .i64 0, .int .i64 0, .slice none 0 0]) ?_ 2 _ rfl; (try refine sO ?_); refine blk_put (cs := #[.int .i64 0, .int .i64 0, .slice none 0 0]) ?_ 1 _ rfl; (try refine sO ?_); refine blk_put (cs := #[.int .i64 0, .int .i64 0, .slice none 0 0]) ?_ 0 _ rfl; first | exact BK500.out | (refine sO ?_; exact BK500.out)) Try.underlying35 rfl (by kernel_rfl)) rfl ?_
      exact ⟨_, by first | rfl | (simp [errW_none, errW_some] <;> rfl) | (simp [*, errW_none, errW_some] <;> rfl), by first | exact Kd.R_nil _ _ _ _ _ | exact Kd.N_nil _ _ _ _ _ | exact Kd.V_nil _ _ _ _ _ | exact Kd.Q_nil _ _ _ _ _ | exact Kd.S_nil _ _ _ _ _, by repeat (first | exact sH HB.out | refine sN (w := w) ?_ | with_reducible refine sG (w := w) ?_ (by assumption))⟩
  · replace c4 := Bool.eq_false_iff.mpr c4
    subst c4
    have H1 : (some (0, 0, ([] : List (S27)), 2)) = some (r1, r2, r3, r4) := by rw [if_neg (show ¬ (false = true) by decide)] at H; exact H
    clear H
    have H := H1
    clear H1
    simp only [Option.some.injEq, Prod.mk.injEq] at H
    obtain ⟨rfl, rfl, rfl, rfl⟩ := H
    go_enter Try.func22, Try.ntmps22
    go_wp2_with (first | ((with_reducible refine gate_dst (N := 2) rfl ?_); refine box_event rfl (N := 2) rfl (cs := #[.int .i64 a0_0, .int .i64 a0_1, .int .i64 a0_2, .int .i64 a0_3]) (t := 24) (by go_simp; try rfl) ?_; intro gb499 hg w137 hbox hb; have BK499 := Aside0.mk (hbox); have GW499 := Aside0.mk ((by rw [hg]; exact (sZ HB) : w.heap.size ≤ gb499)); have GE499 := Aside0.mk ((by rw [hg]; exact (sZ HB) : w.heap.size ≤ gb499)); replace HB := kH HB hb; clear hb hbox hg) | ((with_reducible refine gate_dst (N := 4) rfl ?_); refine box_event rfl (N := 4) rfl (cs := #[.int .i64 0, .int .i64 0, .slice none 0 0]) (t := 35) (by go_simp; try rfl) ?_; intro gb500 hg w138 hbox hb; have BK500 := Aside0.mk (hbox); have GW500 := Aside0.mk ((by rw [hg]; exact (below_size (by repeat (first | exact sH HB.out | refine sN (w := w) ?_ | with_reducible refine sG (w := w) ?_ (by assumption)))) : w.heap.size ≤ gb500)); have GE500 := Aside0.mk ((by rw [hg]; exact (below_size (by repeat (first | exact sH HB.out | refine sN (w := w) ?_ | with_reducible refine sG (w := w) ?_ (by assumption)))) : w.heap.size ≤ gb500)); replace HB := Aside0.mk (below_step (by repeat (first | exact sH HB.out | refine sN (w := w) ?_ | with_reducible refine sG (w := w) ?_ (by assumption))) hb); have NB499_500 := Aside0.mk ((by rw [hg]; exact Nat.ne_of_lt (blk_lt (g := gb499) (o := .cells #[.int .i64 a0_0, .int .i64 a0_1, .int .i64 a0_2, .int .i64 a0_3] 24 (0, 0)) (by first | exact BK499.out | (refine sO ?_; exact BK499.out))) : gb499 ≠ gb500)); have NB500_499 := Aside0.mk ((by rw [hg]; exact Nat.ne_of_gt (blk_lt (g := gb499) (o := .cells #[.int .i64 a0_0, .int .i64 a0_1, .int .i64 a0_2, .int .i64 a0_3] 24 (0, 0)) (by first | exact BK499.out | (refine sO ?_; exact BK499.out))) : gb500 ≠ gb499)); replace BK499 := kB BK499 hb; clear hb hbox hg; have hnb139 := NB499_500.out; have hnc139 := NB500_499.out; obtain ⟨hcz140_0, hcz140_1, hcz140_2, hcz140_3, hfz140_0, hfz140_1, hfz140_2, hfz140_3⟩ := cs4 BK499.out) | ((with_reducible refine gate_callee (f := 41) rfl ?_); refine goesL_ (some 9) rfl rfl Try.func41 (by kernel_rfl) rfl #[.agg #[.int .i64 a0_0, .int .i64 a0_1, .int .i64 a0_2, .int .i64 a0_3]] rfl (by (try simp only [sM]); first | done | rfl | (simp only [sT]; rfl)) ?_; (with_reducible refine (twoslotref06_May.calls a0_0 a0_1 a0_2 a0_3 false _ A3.out).mono ?_); rintro e w141 ⟨rfl, hb⟩; refine ⟨_, rfl, ?_⟩; replace BK499 := kB BK499 hb; replace BK500 := kB BK500 hb; replace HB := Aside0.mk (below_step (by repeat (first | exact sH HB.out | refine sN (w := w) ?_ | with_reducible refine sG (w := w) ?_ (by assumption))) hb); (try clear hb); (try clear hb2); (try clear hk); (try clear hi); obtain ⟨hcz142_0, hcz142_1, hcz142_2, hfz142_0, hfz142_1, hfz142_2⟩ := cs3 BK500.out))
    refine bodyPost_ret (results_ct rfl _ _ gb500 35 #[.int .i64 0, .int .i64 0, .slice none 0 0] (0, 0) _ rfl (by (try refine sO ?_); refine blk_put (cs := #[.int .i64 0, .int .i64 0, .slice none 0 0]) ?_ 2 _ rfl; (try refine sO ?_); refine blk_put (cs := #[.int .i64 0, .int .i64 0, .slice none 0 0]) ?_ 1 _ rfl; (try refine sO ?_); refine blk_put (cs := #[.int .i64 0, .int .i64 0, .slice none 0 0]) ?_ 0 _ rfl; first | exact BK500.out | (refine sO ?_; exact BK500.out)) Try.underlying35 rfl (by kernel_rfl)) rfl ?_
    exact ⟨_, by first | rfl | (simp [errW_none, errW_some] <;> rfl) | (simp [*, errW_none, errW_some] <;> rfl), by first | exact Kd.R_nil _ _ _ _ _ | exact Kd.N_nil _ _ _ _ _ | exact Kd.V_nil _ _ _ _ _ | exact Kd.Q_nil _ _ _ _ _ | exact Kd.S_nil _ _ _ _ _, by repeat (first | exact sH HB.out | refine sN (w := w) ?_ | with_reducible refine sG (w := w) ?_ (by assumption))⟩

end Go.Proofs.Ytdpllcmpndcbnaa.P
