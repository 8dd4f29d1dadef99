-- Written by a program of this session, after the kit's print.
import Derived.Test.YtcnmocbiekfpbaaPx0
import Derived.Test.YtcnmocbiekfpbaaP0Short
import Derived.Test.YtcnmocbiekfpbaaPx5
import Derived.Test.YtcnmocbiekfpbaaPx15
import Derived.Test.YtcnmocbiekfpbaaPx16
import Derived.Test.YtcnmocbiekfpbaaPx17
namespace Go.Proofs.Ytcnmocbiekfpbaa.P
open Go.RowKit Go.Proofs.YtcnmocbiekfpbaaW.PrintWords Go.Proofs.YtcnmocbiekfpbaaW.PrintLast Go.Proofs.YtcnmocbiekfpbaaW.PrintMore
attribute [local go_sem] max2_int min2_int max_two min_two max_three min_three max_four min_four   -- for this text's walks alone
set_option linter.unusedVariables false
set_option linter.unusedSimpArgs false

open Go.Maps (int_keyed keyOf_int_mk)
/-- Block B is a map of ints that reads as f. -/
def MapI (w : World) (B n : Nat) (f : Int → Int) : Prop := ∃ D : DataW Unit, w.ownsMap Try.prog 3 (plainElem Try.prog 3) B n D ∧ ∀ x : Int, D.atKey (.int .i64 x) (.lit (.int .i64 0)) = .lit (.int .i64 (f x))
theorem MapI.made (w : World) : MapI (w.alloc (.map #[] 0)) w.heap.size 0 (fun _ => 0) := ⟨.map [], World.ownsMap_made _ _ _ _, fun _ => rfl⟩
theorem MapI.lt {w : World} {B n : Nat} {f : Int → Int} (h : MapI w B n f) : B < w.heap.size := by
  obtain ⟨D, h, _⟩ := h
  exact h.lt
theorem MapI.as {w : World} {B n n' : Nat} {f g : Int → Int} (h : MapI w B n f) (hn : n ≤ n') (e : ∀ x, f x = g x) : MapI w B n' g := by
  obtain ⟨D, h, ha⟩ := h
  exact ⟨D, h.mono hn, fun x => by rw [ha, e]⟩
theorem MapI.grown {w w' : World} {B n : Nat} {f : Int → Int} {row : Option Nat} (h : MapI w B n f) (hg : w.grownBy w' row) (hne : some B ≠ row) : MapI w' B n f := by
  obtain ⟨D, h, ha⟩ := h
  exact ⟨D, h.kept hg hne, ha⟩
theorem one_wf : (Lit.int .i64 1).wf = true := by decide
theorem isKey {x : Int} (hw : (Lit.int .i64 x).wf = true) : WideAt.IsKeyLit (.int .i64 x) := (int_keyed (P := Try.prog) (k := 3) Try.underlying3).key (keyOf_int_mk Try.underlying3 hw)
theorem MapI.put {w w' : World} {B n : Nat} {f : Int → Int} {D : DataW Unit} {x v : Int} (hm : Go.Maps.IsMap D) (ha : ∀ y : Int, D.atKey (.int .i64 y) (.lit (.int .i64 0)) = .lit (.int .i64 (f y))) (hw : (Lit.int .i64 x).wf = true)
    (h : w'.ownsMap Try.prog 3 (plainElem Try.prog 3) B n (D.put (.int .i64 x) (.lit (.int .i64 v)))) : MapI w' B n (fun y => if y = x then v else f y) := by
  refine ⟨_, h, fun y => ?_⟩
  show _ = DataW.lit (.int .i64 (if y = x then v else f y))
  by_cases hy : y = x
  · subst hy
    rw [if_pos rfl, Go.Maps.atKey_put_same hm (isKey hw)]
  · rw [if_neg hy, Go.Maps.atKey_put_other (fun e => hy (by injection e)), ha]
theorem zero3 (w : World) : (zeroValue 3).run Try.prog w = .ok (.int .i64 0) w := by kernel_rfl
/-- The last of the first k + 1 numbers goes down to its place. -/
def insB : List Int → Nat → List Int
  | L, 0 => L
  | L, k + 1 => if rdOf 0 L ((k + 1 : Nat) : Int) < rdOf 0 L ((k : Nat) : Int) then insB ((L.set (k + 1) (rdOf 0 L ((k : Nat) : Int))).set k (rdOf 0 L ((k + 1 : Nat) : Int))) k else L
def metStep (o : List Int) (x : Int) : List Int := if x ∈ o then o else insB (o ++ [x]) o.length
/-- The rows that raw writes meet, put in one by one. -/
def metRows (l : List S35) : List Int := l.foldl (fun o x => metStep o x.f1) []
theorem insB_len : ∀ (k : Nat) (L : List Int), (insB L k).length = L.length
  | 0, L => rfl
  | k + 1, L => by
    unfold insB
    split
    · rw [insB_len k]
      simp
    · rfl
theorem rd_nat {L : List Int} {k : Nat} (h : k < L.length) : rdOf 0 L ((k : Nat) : Int) = L[k] := by
  simp [rdOf, h]
theorem swap_mem {L : List Int} {k : Nat} (h : k + 1 < L.length) (y : Int) : y ∈ (L.set (k + 1) (rdOf 0 L ((k : Nat) : Int))).set k (rdOf 0 L ((k + 1 : Nat) : Int)) ↔ y ∈ L := by
  rw [rd_nat h, rd_nat (show k < L.length by omega)]
  have hp : ((L.set (k + 1) L[k]).set k L[k + 1]).Perm L := by
    exact List.set_set_perm h (by omega)
  exact hp.mem_iff
theorem insB_mem : ∀ (k : Nat) (L : List Int), k < L.length → ∀ y, y ∈ insB L k ↔ y ∈ L
  | 0, L, _, y => Iff.rfl
  | k + 1, L, h, y => by
    unfold insB
    split
    · rw [insB_mem k _ (by simp; omega) y, swap_mem h]
    · exact Iff.rfl
theorem metStep_mem (o : List Int) (x y : Int) : y ∈ metStep o x ↔ y ∈ o ∨ y = x := by
  unfold metStep
  by_cases h : x ∈ o
  rotate_left
  · rw [if_neg h, insB_mem _ _ (by simp)]
    simp
  rw [if_pos h]
  constructor
  · exact Or.inl
  · rintro (h | rfl)
    · exact h
    · exact h
theorem metStep_len (o : List Int) (x : Int) : (metStep o x).length ≤ o.length + 1 := by
  unfold metStep
  split
  · omega
  · rw [insB_len]
    simp
theorem metRows_end (l : List S35) (x : S35) : metRows (l ++ [x]) = metStep (metRows l) x.f1 := by
  unfold metRows
  rw [List.foldl_append]
  rfl
def inF (o : List Int) (y : Int) : Int := if y ∈ o then 1 else 0
theorem inF_put (o : List Int) (x y : Int) : (if y = x then 1 else inF o y) = inF (metStep o x) y := by
  unfold inF
  by_cases h : y = x
  rotate_left
  · rw [if_neg h]
    by_cases h2 : y ∈ o
    rotate_left
    · rw [if_neg h2, if_neg (fun hh => ((metStep_mem o x y).mp hh).elim h2 h)]
    rw [if_pos h2, if_pos ((metStep_mem o x y).mpr (.inl h2))]
  rw [if_pos h, if_pos ((metStep_mem o x y).mpr (.inr h))]
theorem insB_one {L T : List Int} {k : Nat} (h : insB L (k + 1) = T) : (rdOf 0 L ((k + 1 : Nat) : Int) < rdOf 0 L ((k : Nat) : Int) → insB ((L.set (k + 1) (rdOf 0 L ((k : Nat) : Int))).set k (rdOf 0 L ((k + 1 : Nat) : Int))) k = T) ∧ (¬ rdOf 0 L ((k + 1 : Nat) : Int) < rdOf 0 L ((k : Nat) : Int) → L = T) := by
  unfold insB at h
  exact ⟨fun hc => by rwa [if_pos hc] at h, fun hc => by rwa [if_neg hc] at h⟩
theorem met_drewN (w : World) (n : Nat) (row : Option Nat) : w.grownBy (w.drewN n) row := ⟨rfl, rfl, rfl, Nat.le_refl _, fun _ _ _ => rfl⟩
def twoslotref09_Rows.f (l0 : List S35) : Option (List Int × Int) := if (l0.all fun x => (Lit.int .i64 x.f1).wf) = true then some (if 65536 < l0.length then ([], 20) else (metRows l0, 0)) else none
set_option maxHeartbeats 8000000 in
set_option maxRecDepth 100000 in
theorem met_long (A : Option Addr) (cap : Nat) (l : List S35) (w : World) (h6 : 65536 < l.length) :
    Calls Try.prog 36 #[.slice A l.length cap] w fun e w' => ∃ v0_ : Value, e = .returned (.tuple #[v0_, .int .i64 20]) ∧ Kd.R (Kd.int .i64) 3 w' w.heap.size (fun _ => True) v0_ [] ∧ Below w.heap.size w w' := by
  have HB := Aside0.mk (Below.refl w.heap.size w)
  have b1 : decide ((65536 : Int) < (l.length : Int)) = true := decide_eq_true (by omega)
  have b2 : decide (65536 < l.length) = true := decide_eq_true h6
  clear h6
  go_enter Try.func36, Try.ntmps36
  go_wp2
  go_ret2
  exact ⟨_, rfl, Kd.R_nil _ _ _ _ _, HB.out⟩
set_option maxHeartbeats 8000000 in
set_option maxRecDepth 100000 in
theorem met_main (A : Option Addr) (cap : Nat) (l : List S35) (w : World) (hC : Kd.C k35 w A l.length l) (hwf : ∀ x ∈ l, (Lit.int .i64 x.f1).wf = true) (h6 : ¬ 65536 < l.length) :
    Calls Try.prog 36 #[.slice A l.length cap] w fun e w' => ∃ v0_ : Value, e = .returned (.tuple #[v0_, .int .i64 0]) ∧ Kd.R (Kd.int .i64) 3 w' w.heap.size (fun _ => True) v0_ (metRows l) ∧ Below w.heap.size w w' := by
  have hu35 := Try.underlying35
  have HB := Aside0.mk (Below.refl w.heap.size w)
  have b1 : decide ((65536 : Int) < (l.length : Int)) = false := decide_eq_false (by omega)
  have b2 : decide (65536 < l.length) = false := decide_eq_false h6
  have HR := Aside0.mk hC
  have HW := Aside0.mk hwf
  have HN := Aside0.mk h6
  clear hC hwf h6
  have hmm := @run_makeMap Try.prog
  go_enter Try.func36, Try.ntmps36
  go_wp2
  go_loopg [5, 6] l.length (fun kq v5 v6 wr => ∃ k : Nat, v6 = .int .i64 (k : Int) ∧ Aside0 (k ≤ l.length ∧ l.length - k ≤ kq) ∧ Aside0 (Below w.heap.size w wr) ∧ Aside0 (MapI wr w.heap.size k (inF (metRows (l.take k)))) ∧ Aside0 (Kd.R (Kd.int .i64) 3 wr w.heap.size (fun k_ => k_ ≠ w.heap.size) v5 (metRows (l.take k))) ∧ Aside0 ((metRows (l.take k)).length ≤ k))
  case atStart => exact ⟨0, rfl, Aside0.mk ⟨by omega, by omega⟩, Aside0.mk (below_alloc HB.out _), Aside0.mk (MapI.made w), Aside0.mk (Kd.R_nil _ _ _ _ _), Aside0.mk (Nat.le_refl _)⟩
  case round =>
    clear HB
    obtain ⟨gk0, rfl⟩ : ∃ g, g = gk := ⟨_, rfl⟩
    obtain ⟨k, rfl, AX, HB, HM, HO, HLN⟩ := hrel
    by_cases hlt : k < l.length
    · obtain ⟨ad, A3, c3, x, eA, hd, hf, _, q0, q1, q2, q3, _⟩ := put_elem HR.out k hlt
      subst eA
      have b3 : decide ((k : Int) < (l.length : Int)) = true := decide_eq_true (by omega)
      have b4 : decide (k < l.length) = true := decide_eq_true hlt
      have b5 : (k < l.length) = True := eq_true hlt
      have hx2 := pw_cell_below HB.out q1
      have HCX := Aside0.mk q1
      have AF := Aside0.mk hf
      have HX := Aside0.mk (HW.out x (List.mem_of_mem_drop (by rw [hd]; exact List.mem_cons_self)))
      have HK := Aside0.mk hlt
      clear hf hd hlt q0 q1 q2 q3
      by_cases hin : x.f1 ∈ metRows (l.take k)
      · have AI := Aside0.mk (show inF (metRows (l.take k)) x.f1 = 1 from if_pos hin)
        have AJ := Aside0.mk (show metRows (l.take (k + 1)) = metRows (l.take k) by rw [AF.out, metRows_end]; exact if_pos hin)
        clear hin
        go_wp2_with ((at_lookup; obtain ⟨D, hown, hat⟩ := HM.out; refine wpList_lookup_own_int (H := Unit) _ rfl _ _ 77 rfl 3 3 .i64 (int_keyed Try.underlying3) Try.underlying77 Try.underlying3 (zero3 _) _ k D rfl hown _ _ rfl (keyOf_int_mk Try.underlying3 HX.out) ?_; intro cv hat2 hwc; obtain rfl : cv = 1 := (by have h1 := hat x.f1; rw [AI.out] at h1; have h2 := hat2.symm.trans h1; simpa using h2); clear hown hat hat2 hwc))
        go_roundg (gk0 - 1)
        case measure =>
          have := AX.out
          have := HK.out
          omega
        case rel =>
          have h1 := AX.out
          have h2 := HK.out
          have h3 := HN.out
          have h4 := HLN.out
          exact ⟨k + 1, by rw [show wrap64 ((k : Int) + 1) = ((k + 1 : Nat) : Int) by unfold wrap64; omega], Aside0.mk ⟨by omega, by omega⟩, HB, Aside0.mk (by rw [AJ.out]; exact HM.out.as (by omega) (fun _ => rfl)), Aside0.mk (by rw [AJ.out]; exact HO.out), Aside0.mk (by rw [AJ.out]; omega)⟩
      · have AI := Aside0.mk (show inF (metRows (l.take k)) x.f1 = 0 from if_neg hin)
        have AJ := Aside0.mk (show metRows (l.take (k + 1)) = insB (metRows (l.take k) ++ [x.f1]) (metRows (l.take k)).length by rw [AF.out, metRows_end]; exact if_neg hin)
        have AJ2 := Aside0.mk (show metRows (l.take (k + 1)) = metStep (metRows (l.take k)) x.f1 by rw [AF.out, metRows_end])
        obtain ⟨L0, eL0⟩ : ∃ L0 : List Int, L0 = metRows (l.take k) ++ [x.f1] := ⟨_, rfl⟩
        have EL := Aside0.mk eL0
        have HLL := Aside0.mk (show L0.length = (metRows (l.take k)).length + 1 by rw [eL0]; simp)
        have HT := Aside0.mk (show insB L0 (metRows (l.take k)).length = metRows (l.take (k + 1)) by rw [AJ.out, eL0])
        clear hin eL0 AJ
        go_wp2_with (first | (at_lookup; obtain ⟨D, hown, hat⟩ := HM.out; refine wpList_lookup_own_int (H := Unit) _ rfl _ _ 77 rfl 3 3 .i64 (int_keyed Try.underlying3) Try.underlying77 Try.underlying3 (zero3 _) _ k D rfl hown _ _ rfl (keyOf_int_mk Try.underlying3 HX.out) ?_; intro cv hat2 hwc; obtain rfl : cv = 0 := (by have h1 := hat x.f1; rw [AI.out] at h1; have h2 := hat2.symm.trans h1; simpa using h2); clear hown hat hat2 hwc) | (at_mapUpdate; obtain ⟨D, hown, hat⟩ := HM.out; have hwf := HX.out; refine wpList_mapUpdate_own (H := Unit) _ rfl _ _ _ 77 rfl 3 3 (int_keyed Try.underlying3) Try.underlying77 _ _ k D rfl hown (by have := HK.out; have := HN.out; unfold maxLen; omega) _ _ _ rfl rfl (keyOf_int_mk Try.underlying3 hwf) _ [] (plainElem_int Try.underlying3 one_wf) ?_; intro w5 hown1 hgr; have n0 := Aside0.mk (HB.out.grown hgr HB.out.size (fun j hj => (by cases hj; exact Nat.le_refl _))); have n1 := Aside0.mk (Kd.R_grown1 HO.out rfl hgr (fun e => HO.out.1 _ (Eq.symm e) rfl)); have n2 := Aside0.mk ((MapI.put (w := wr) hown.isMap hat hwf hown1).as (Nat.le_refl _) (inF_put (metRows (l.take k)) x.f1)); clear HB HM HO hown hat hown1 hgr hwf hx2; have HB := n0; have HM := n2; have HO := n1; clear n0 n1 n2; have hx2 := pw_cell_below HB.out HCX.out) | ((with_reducible refine gate_builtin (b := .append) (xs := #[.tmp 33, .tmp 39]) rfl ?_); at_builtin; refine Kd.R_append (Kd.int .i64) (w0 := w) w.heap.size rfl (.tmp 33) (.tmp 39) 36 3 (.int .i64 0) 8 rfl Try.underlying36 info3 rfl (by decide) (by omega) _ (metRows (l.take k)) x.f1 [.int .i64 x.f1] (fun k_ => k_ ≠ w.heap.size) (fun _ => False) rfl rfl rfl (fun _ hk => hk.elim) (fun k_ hk => (by have := HM.out.lt; omega)) HO.out HB.out HB.out.size (by have := HLN.out; have := HK.out; have := HN.out; omega) ?_; intro v9 w9 ho hb hg hat; rw [← EL.out] at ho; have hne := (fun e => HO.out.1 _ (Eq.symm e) rfl : some w.heap.size ≠ _); have n2 := Aside0.mk (HM.out.grown hg hne); clear HM HB HO hx2; have HM := n2; have HB := Aside0.mk hb; have HO := Aside0.mk ho; clear n2 hb ho hg hat hne; obtain ⟨go, co, eo, gb, gl, cl⟩ := Kd.R_form HO.out (by have := HLL.out; omega); subst eo; have GB := Aside0.mk gb; have HNE := Aside0.mk (show some w.heap.size ≠ some go from fun e => HO.out.1 _ rfl (by injection e with e; exact e.symm)); clear gb gl cl))
        go_loopg [7] L0.length (fun kq v7 wr2 => ∃ (L : List Int) (J : Int), v7 = .int .i64 J ∧ Aside0 (insB L J.toNat = metRows (l.take (k + 1))) ∧ Aside0 (0 ≤ J ∧ J.toNat ≤ kq ∧ J < (L0.length : Int) ∧ L.length = L0.length) ∧ Aside0 (Below w.heap.size w wr2) ∧ Aside0 (MapI wr2 w.heap.size (k + 1) (inF (metStep (metRows (l.take k)) x.f1))) ∧ Aside0 (Kd.R (Kd.int .i64) 3 wr2 w.heap.size (fun k_ => k_ ≠ w.heap.size) (.slice (some ⟨go, 0, none⟩) L0.length co) L))
        case atStart =>
          have h1 := HLL.out
          have h2 := HLN.out
          have h3 := HN.out
          have h4 := HK.out
          have e1 : wrap64 ((L0.length : Int) - 1) = (((metRows (l.take k)).length : Nat) : Int) := by
            unfold wrap64
            omega
          exact ⟨L0, wrap64 ((L0.length : Int) - 1), (by first | rfl | simp), Aside0.mk (by rw [e1]; exact HT.out), Aside0.mk (by rw [e1]; omega), HB, HM, HO⟩
        case round =>
          clear HB HM HO
          obtain ⟨L, J, rfl, HI, HJ, HB, HM, HO⟩ := hrel
          by_cases hj : 0 < J
          · have hj1 := HJ.out
            have c1 : decide (0 < J) = true := decide_eq_true hj
            have h1 := HLL.out
            have h2 := HLN.out
            have h3 := HN.out
            have h4 := HK.out
            have e1 : wrap64 (J - 1) = J - 1 := by
              unfold wrap64
              omega
            have E1 := Aside0.mk e1
            have HJ0 := Aside0.mk hj
            have p1 : 0 ≤ J := hj1.1
            have q1 : J < (L0.length : Int) := hj1.2.2.1
            have p2 : 0 ≤ wrap64 (J - 1) := by omega
            have q2 : wrap64 (J - 1) < (L0.length : Int) := by omega
            have P1 := Aside0.mk (And.intro p1 q1)
            have P2 := Aside0.mk (And.intro p2 q2)
            obtain ⟨jn, hjn⟩ : ∃ jn : Nat, J.toNat = jn + 1 := ⟨J.toNat - 1, by omega⟩
            have ejn : (wrap64 (J - 1)).toNat = jn := by omega
            have eJ : J = ((jn + 1 : Nat) : Int) := by omega
            have eJ1 : wrap64 (J - 1) = (jn : Int) := by omega
            have H := HI.out
            rw [hjn] at H
            have H2 := insB_one H
            have HC := Aside0.mk (show (rdOf 0 L J < rdOf 0 L (wrap64 (J - 1)) → insB ((L.set J.toNat (rdOf 0 L (wrap64 (J - 1)))).set (wrap64 (J - 1)).toNat (rdOf 0 L J)) (wrap64 (J - 1)).toNat = metRows (l.take (k + 1))) ∧ (¬ rdOf 0 L J < rdOf 0 L (wrap64 (J - 1)) → L = metRows (l.take (k + 1))) by rw [ejn, hjn, eJ1, eJ]; exact H2)
            clear H H2 eJ1 eJ ejn hjn e1 hj hj1 h1 h2 h3 h4
            obtain ⟨hx1, hf1⟩ := Kd.R_celln 0 HO.out J p1 q1
            obtain ⟨hx2, hf2⟩ := Kd.R_celln 0 HO.out (wrap64 (J - 1)) p2 q2
            replace p1 := eq_true p1
            replace q1 := eq_true q1
            replace p2 := eq_true p2
            replace q2 := eq_true q2
            by_cases hc : rdOf 0 L J < rdOf 0 L (wrap64 (J - 1))
            · have c2 : decide (rdOf 0 L J < rdOf 0 L (wrap64 (J - 1))) = true := decide_eq_true hc
              have HI2 := Aside0.mk (HC.out.1 hc)
              clear hc HC HI
              go_wp2
              go_quiet (fail)
              have n0 := Aside0.mk (pw_below_drewN HB.out nq)
              have n1 := Aside0.mk (HM.out.grown (met_drewN wr nq none) (by simp))
              have n2 := Aside0.mk (Kd.R_drewN HO.out nq)
              clear HB HM HO hx1 hf1 hx2 hf2
              have HB := n0
              have HM := n1
              have HO := n2
              clear n0 n1 n2
              obtain ⟨hx1, hf1⟩ := Kd.R_celln 0 HO.out J P1.out.1 P1.out.2
              obtain ⟨hx2, hf2⟩ := Kd.R_celln 0 HO.out (wrap64 (J - 1)) P2.out.1 P2.out.2
              have HP := Aside0.mk (Kd.R_putg HO.out J (rdOf 0 L (wrap64 (J - 1))))
              have tk1 : True := trivial
              go_wp2_with (first | (have _ := tk1; (with_reducible refine gate_store (t := 3) (p := 71) rfl ?_); refine store_event (t := 3) (p := 71) (v := ?vo_w10) (w1 := ((wr.drewN nq).setCell ⟨go, (J).toNat, none⟩ (.int .i64 (rdOf 0 L (wrap64 (J - 1)))))) ?hg ?ho ?hn ?hr ?_; (case ho => rfl); (case hg => rfl); (case hn => rfl); (case hr => first | (go_simp; done) | (go_simp; rfl)); intro w10 hw; have hg : (wr.drewN nq).grownBy w10 (some go) := (by rw [hw]; exact HP.out.2); have hp_ := HP.out.1; rw [← hw] at hp_; have n0_ := Aside0.mk hp_; have n1_ := Aside0.mk ((by rw [hw]; exact below_set (HB.out) GB.out : Below w.heap.size w w10)); have n2_ := Aside0.mk (HM.out.grown hg HNE.out); clear HO HB HM HP hg hw hp_; have HO := n0_; have HB := n1_; have HM := n2_; clear n0_ n1_ n2_; clear hx1 hf1 hx2 hf2; obtain ⟨hx2, hf2⟩ := Kd.R_celln 0 HO.out (wrap64 (J - 1)) P2.out.1 P2.out.2; have HP := Aside0.mk (Kd.R_putg HO.out (wrap64 (J - 1)) (rdOf 0 L J)); have tk2 : True := trivial; clear tk1) | (have _ := tk2; (with_reducible refine gate_store (t := 3) (p := 76) rfl ?_); refine store_event (t := 3) (p := 76) (v := ?vo_w11) (w1 := (w10.setCell ⟨go, (wrap64 (J - 1)).toNat, none⟩ (.int .i64 (rdOf 0 L J)))) ?hg ?ho ?hn ?hr ?_; (case ho => rfl); (case hg => rfl); (case hn => rfl); (case hr => first | (go_simp; done) | (go_simp; rfl)); intro w11 hw; have hg : w10.grownBy w11 (some go) := (by rw [hw]; exact HP.out.2); have hp_ := HP.out.1; rw [← hw] at hp_; have n0_ := Aside0.mk hp_; have n1_ := Aside0.mk ((by rw [hw]; exact below_set (HB.out) GB.out : Below w.heap.size w w11)); have n2_ := Aside0.mk (HM.out.grown hg HNE.out); clear HO HB HM HP hg hw hp_; have HO := n0_; have HB := n1_; have HM := n2_; clear n0_ n1_ n2_; clear hx2 hf2; clear tk2))
              go_roundg (gk - 1)
              case measure =>
                have h1 := HJ.out
                have h2 := HJ0.out
                omega
              case rel =>
                have h1 := HJ.out
                have h2 := HJ0.out
                have h3 := E1.out
                exact ⟨_, wrap64 (J - 1), rfl, HI2, Aside0.mk ⟨by omega, by omega, by omega, by rw [List.length_set, List.length_set]; exact h1.2.2.2⟩, HB, HM, HO⟩
            · have c2 : decide (rdOf 0 L J < rdOf 0 L (wrap64 (J - 1))) = false := decide_eq_false hc
              have HE := Aside0.mk (HC.out.2 hc)
              clear hc HC
              go_wp2
              go_quiet (fail)
              have n0 := Aside0.mk (pw_below_drewN HB.out nq)
              have n1 := Aside0.mk (HM.out.grown (met_drewN wr nq none) (by simp))
              have n2 := Aside0.mk (Kd.R_drewN HO.out nq)
              clear HB HM HO hx1 hf1 hx2 hf2
              have HB := n0
              have HM := n1
              have HO := n2
              clear n0 n1 n2
              go_wp2
              go_roundg (gk0 - 1)
              case measure =>
                have := AX.out
                have := HK.out
                omega
              case rel =>
                have h1 := AX.out
                have h2 := HK.out
                have h3 := HN.out
                have h4 := HLN.out
                have h5 := metStep_len (metRows (l.take k)) x.f1
                exact ⟨k + 1, by rw [show wrap64 ((k : Int) + 1) = ((k + 1 : Nat) : Int) by unfold wrap64; omega], Aside0.mk ⟨by omega, by omega⟩, HB, Aside0.mk (by rw [AJ2.out]; exact HM.out), Aside0.mk (by rw [← HE.out]; exact HO.out), Aside0.mk (by rw [AJ2.out]; omega)⟩
          · have c1 : decide (0 < J) = false := decide_eq_false hj
            have HE := Aside0.mk (show L = metRows (l.take (k + 1)) by have h := HI.out; rw [show J.toNat = 0 by omega] at h; simpa [insB] using h)
            clear hj
            go_wp2
            go_quiet (fail)
            have n0 := Aside0.mk (pw_below_drewN HB.out nq)
            have n1 := Aside0.mk (HM.out.grown (met_drewN wr nq none) (by simp))
            have n2 := Aside0.mk (Kd.R_drewN HO.out nq)
            clear HB HM HO
            have HB := n0
            have HM := n1
            have HO := n2
            clear n0 n1 n2
            go_wp2
            go_roundg (gk0 - 1)
            case measure =>
              have := AX.out
              have := HK.out
              omega
            case rel =>
              have h1 := AX.out
              have h2 := HK.out
              have h3 := HN.out
              have h4 := HLN.out
              have h5 := metStep_len (metRows (l.take k)) x.f1
              exact ⟨k + 1, by rw [show wrap64 ((k : Int) + 1) = ((k + 1 : Nat) : Int) by unfold wrap64; omega], Aside0.mk ⟨by omega, by omega⟩, HB, Aside0.mk (by rw [AJ2.out]; exact HM.out), Aside0.mk (by rw [← HE.out]; exact HO.out), Aside0.mk (by rw [AJ2.out]; omega)⟩
    · have b3 : decide ((k : Int) < (l.length : Int)) = false := decide_eq_false (by omega)
      have b4 : decide (k < l.length) = false := decide_eq_false hlt
      have e1 : l.take k = l := List.take_of_length_le (by omega)
      have h := HO.out
      rw [e1] at h
      have HE := Aside0.mk h
      clear hlt e1 h
      go_wp2
      go_ret2
      exact ⟨_, rfl, Kd.R_mono HE.out (fun _ _ => trivial), HB.out⟩
theorem twoslotref09_Rows.calls (A0 : Option Addr) (c0 : Nat) (l0 : List (S35)) (r0 : List Int) (r1 : Int) (w : World) (hr0 : Kd.C k35 w A0 l0.length l0) (hc0 : l0.length ≤ c0) (h : twoslotref09_Rows.f l0 = some (r0, r1)) :
    Calls Try.prog 36 #[.slice A0 l0.length c0] w fun e w' => ∃ v0_ : Value, e = .returned (.tuple #[v0_, .int .i64 r1]) ∧ Kd.R (Kd.int .i64) 3 w' w.heap.size (fun _ => True) v0_ r0 ∧ Below w.heap.size w w' := by
  unfold twoslotref09_Rows.f at h
  by_cases ha : (l0.all fun x => (Lit.int .i64 x.f1).wf) = true
  · rw [if_pos ha] at h
    by_cases h6 : 65536 < l0.length
    · rw [if_pos h6] at h
      obtain ⟨rfl, rfl⟩ := Prod.mk.inj (Option.some.inj h)
      exact met_long A0 c0 l0 w h6
    · rw [if_neg h6] at h
      obtain ⟨rfl, rfl⟩ := Prod.mk.inj (Option.some.inj h)
      exact met_main A0 c0 l0 w hr0 (fun x hx => List.all_eq_true.mp ha x hx) h6
  · rw [if_neg ha] at h
    cases h

def twoslotref07_Same.l0 : Nat → List Int → List Int → Int → Option (Bool)
  | 0, _, _, _ => none
  | k + 1, x0, x1, x5 => if x5 < (x0.length : Int) then (if 0 ≤ x5 then (if x5 < (x1.length : Int) then (if (rd x0 x5) = (rd x1 x5) then (twoslotref07_Same.l0 k x0 x1 (wrap64 (x5 + 1))) else (some false)) else (none)) else (none)) else (some true)
def twoslotref07_Same.f (k : Nat) (l0 : List Int) (l1 : List Int) : Option (Bool) := if (l0.length : Int) = (l1.length : Int) then (twoslotref07_Same.l0 k l0 l1 0) else (some false)
set_option maxHeartbeats 8000000 in
set_option maxRecDepth 100000 in
theorem twoslotref07_Same.calls (k : Nat) (A0 : Option Addr) (c0 : Nat) (l0 : List Int) (A1 : Option Addr) (c1 : Nat) (l1 : List Int) (r : Bool) (w : World) (hr0 : Kd.C (Kd.int .i64) w A0 l0.length l0) (hc0 : l0.length ≤ c0) (hr1 : Kd.C (Kd.int .i64) w A1 l1.length l1) (hc1 : l1.length ≤ c1) (h : twoslotref07_Same.f k l0 l1 = some r) :
    Calls Try.prog 37 #[.slice A0 l0.length c0, .slice A1 l1.length c1] w fun e w' => e = .returned (.bool r) ∧ Drawn0 w w' := by
  have HR0 := Aside0.mk hr0
  have HC0 := Aside0.mk hc0
  clear hr0 hc0
  have HR1 := Aside0.mk hr1
  have HC1 := Aside0.mk hc1
  clear hr1 hc1
  have H : (if (l0.length : Int) = (l1.length : Int) then (twoslotref07_Same.l0 k l0 l1 0) else (some false)) = some r := h
  clear h
  by_cases c3 : (l0.length : Int) = (l1.length : Int)
  · rw [if_pos c3] at H
    have c3b0 : ((l0.length : Int) == (l1.length : Int)) = true := beq_iff_eq.mpr c3
    have c3b1 : ((l0.length : Int) != (l1.length : Int)) = false := bne_eq_false_iff_eq.mpr c3
    have c3b2 : (l0.length == l1.length) = true := by first | simpa using c3 | (simp at c3 ⊢; omega)
    clear c3
    have H' := Aside0.mk H
    clear H
    go_enter Try.func37, Try.ntmps37
    go_wp2
    repeat (go_quiet (fail); try go_wp2)
    go_loopg [5] k (fun kq v5 w' => ∃ (x5_1 : Int), v5 = .int .i64 x5_1 ∧ Aside0 (twoslotref07_Same.l0 kq l0 l1 x5_1 = some r) ∧ Aside0 (kq ≤ k) ∧ Drawn0 w w')
    case atStart => exact ⟨(0), (by first | rfl | (simp; done) | (simp [*]; done)), H', ⟨Nat.le_refl _⟩, by repeat (first | exact Drawn0.refl _ | apply Drawn0.step)⟩
    case round =>
      clear H'
      try clear c1
      try clear p2
      try clear c3
      try clear c3b0
      try clear c3b1
      try clear c3b2
      obtain ⟨x5_1, rfl, HA, HK1, ⟨m1, rfl⟩⟩ := hrel
      cases gk with
      | zero => exact absurd HA.out (by simp [twoslotref07_Same.l0])
      | succ k1 =>
        have H := HA.out
        clear HA
        simp only [twoslotref07_Same.l0] at H
        by_cases c4 : x5_1 < (l0.length : Int)
        · rw [if_pos c4] at H
          have c4b0 : decide (x5_1 < (l0.length : Int)) = true := decide_eq_true c4
          clear c4
          by_cases c5 : 0 ≤ x5_1
          · rw [if_pos c5] at H
            have c5b0 : decide (0 ≤ x5_1) = true := decide_eq_true c5
            clear c5
            by_cases c6 : x5_1 < (l1.length : Int)
            · rw [if_pos c6] at H
              have c6b0 : decide (x5_1 < (l1.length : Int)) = true := decide_eq_true c6
              clear c6
              by_cases c7 : (rd l0 x5_1) = (rd l1 x5_1)
              · rw [if_pos c7] at H
                have c7b0 : ((rd l0 x5_1) == (rd l1 x5_1)) = true := beq_iff_eq.mpr c7
                have c7b1 : ((rd l0 x5_1) != (rd l1 x5_1)) = false := bne_eq_false_iff_eq.mpr c7
                clear c7
                have H' := Aside0.mk H
                clear H
                have p554 : 0 ≤ (x5_1 : Int) := of_decide_eq_true (by first | (with_reducible assumption) | assumption)
                have q554 : x5_1 < (l0.length : Int) := of_decide_eq_true (by first | (with_reducible assumption) | assumption)
                obtain ⟨ad554, e554, hx554_0⟩ := Kd.at_int HR0.out x5_1 p554 q554
                cases e554
                replace p554 := eq_true p554
                replace q554 := eq_true q554
                have p555 : 0 ≤ (x5_1 : Int) := of_decide_eq_true (by first | (with_reducible assumption) | assumption)
                have q555 : x5_1 < (l1.length : Int) := of_decide_eq_true (by first | (with_reducible assumption) | assumption)
                obtain ⟨ad555, e555, hx555_0⟩ := Kd.at_int HR1.out x5_1 p555 q555
                cases e555
                replace p555 := eq_true p555
                replace q555 := eq_true q555
                go_wp2
                repeat (go_quiet (fail); try go_wp2)
                go_roundg k1
                case measure => have := HK1.out; omega
                case rel => exact ⟨(wrap64 (x5_1 + 1)), (by first | rfl | (simp; done) | (simp [*]; done)), H', ⟨by have := HK1.out; omega⟩, by repeat (first | exact Drawn0.refl _ | apply Drawn0.step)⟩
              · rw [if_neg c7] at H
                have c7b0 : ((rd l0 x5_1) == (rd l1 x5_1)) = false := beq_eq_false_iff_ne.mpr c7
                have c7b1 : ((rd l0 x5_1) != (rd l1 x5_1)) = true := bne_iff_ne.mpr c7
                obtain rfl := Option.some.inj H
                have p554 : 0 ≤ (x5_1 : Int) := of_decide_eq_true (by first | (with_reducible assumption) | assumption)
                have q554 : x5_1 < (l0.length : Int) := of_decide_eq_true (by first | (with_reducible assumption) | assumption)
                obtain ⟨ad554, e554, hx554_0⟩ := Kd.at_int HR0.out x5_1 p554 q554
                cases e554
                replace p554 := eq_true p554
                replace q554 := eq_true q554
                have p555 : 0 ≤ (x5_1 : Int) := of_decide_eq_true (by first | (with_reducible assumption) | assumption)
                have q555 : x5_1 < (l1.length : Int) := of_decide_eq_true (by first | (with_reducible assumption) | assumption)
                obtain ⟨ad555, e555, hx555_0⟩ := Kd.at_int HR1.out x5_1 p555 q555
                cases e555
                replace p555 := eq_true p555
                replace q555 := eq_true q555
                go_wp2
                repeat (go_quiet (fail); try go_wp2)
                go_ret
                exact ⟨by first | rfl | (simp; done) | (simp [*]; done), by repeat (first | exact Drawn0.refl _ | apply Drawn0.step)⟩
            · rw [if_neg c6] at H
              exact absurd H (by simp)
          · rw [if_neg c5] at H
            exact absurd H (by simp)
        · rw [if_neg c4] at H
          have c4b0 : decide (x5_1 < (l0.length : Int)) = false := decide_eq_false c4
          clear c4
          obtain rfl := Option.some.inj H
          go_wp2
          repeat (go_quiet (fail); try go_wp2)
          go_ret
          exact ⟨by first | rfl | (simp; done) | (simp [*]; done), by repeat (first | exact Drawn0.refl _ | apply Drawn0.step)⟩
  · rw [if_neg c3] at H
    have c3b0 : ((l0.length : Int) == (l1.length : Int)) = false := beq_eq_false_iff_ne.mpr c3
    have c3b1 : ((l0.length : Int) != (l1.length : Int)) = true := bne_iff_ne.mpr c3
    have c3b2 : (l0.length == l1.length) = false := by first | simpa using c3 | (simp at c3 ⊢; omega)
    obtain rfl := Option.some.inj H
    go_enter Try.func37, Try.ntmps37
    go_wp2
    repeat (go_quiet (fail); try go_wp2)
    go_ret
    exact ⟨by first | rfl | (simp; done) | (simp [*]; done), by repeat (first | exact Drawn0.refl _ | apply Drawn0.step)⟩

def twoslotlaw09_ImageMeets.f (k : Nat) (l0 : List (S35)) : Option (Bool) := (twoslotlaw09_alive.f).bind fun t556 => (if t556 = true then (if (l0.length : Int) > 2000 then (some true) else ((image_Rows.f k l0).bind fun bt557 => ((twoslotref09_Rows.f l0).bind fun bt561 => ((twoslotref07_Same.f k bt557.1 bt561.1).bind fun t565 => (if t565 = true then (some (bt557.2 == bt561.2)) else (none)))))) else (none))
set_option maxHeartbeats 8000000 in
set_option maxRecDepth 100000 in
theorem twoslotlaw09_ImageMeets.calls (k : Nat) (A0 : Option Addr) (c0 : Nat) (l0 : List (S35)) (r : Bool) (w : World) (hr0 : Kd.C k35 w A0 l0.length l0) (hc0 : l0.length ≤ c0) (h : twoslotlaw09_ImageMeets.f k l0 = some r) :
    Calls Try.prog 6 #[.slice A0 l0.length c0] w fun e w' => e = .returned (.bool r) ∧ Below w.heap.size w w' := by
  have HR0 := Aside0.mk hr0
  have HC0 := Aside0.mk hc0
  clear hr0 hc0
  have HB := Aside0.mk (Below.refl w.heap.size w)
  have H : ((twoslotlaw09_alive.f).bind fun t556 => (if t556 = true then (if (l0.length : Int) > 2000 then (some true) else ((image_Rows.f k l0).bind fun bt557 => ((twoslotref09_Rows.f l0).bind fun bt561 => ((twoslotref07_Same.f k bt557.1 bt561.1).bind fun t565 => (if t565 = true then (some (bt557.2 == bt561.2)) else (none)))))) else (none))) = some r := h
  clear h
  replace H := Option.bind_eq_some_iff.mp H
  obtain ⟨t556, A20, H⟩ := H
  try dsimp only at H
  have A2 := Aside0.mk A20
  clear A20
  by_cases c3 : t556 = true
  · subst c3
    have H1 : (if (l0.length : Int) > 2000 then (some true) else ((image_Rows.f k l0).bind fun bt557 => ((twoslotref09_Rows.f l0).bind fun bt561 => ((twoslotref07_Same.f k bt557.1 bt561.1).bind fun t565 => (if t565 = true then (some (bt557.2 == bt561.2)) else (none)))))) = some r := by rw [if_pos rfl] at H; exact H
    clear H
    have H := H1
    clear H1
    by_cases c4 : (l0.length : Int) > 2000
    · rw [if_pos c4] at H
      have c4b0 : decide (2000 < (l0.length : Int)) = true := decide_eq_true c4
      have c4b1 : decide (2000 < l0.length) = true := decide_eq_true (by omega)
      clear c4
      obtain rfl := Option.some.inj H
      go_enter Try.func6, Try.ntmps6
      go_wp2_with (first | ((with_reducible refine gate_callee (f := 9) rfl ?_); refine goesL_ (some 8) rfl rfl Try.func9 (by kernel_rfl) rfl #[] rfl (by (try simp only [sM]); first | done | rfl | (simp only [sT]; rfl)) ?_; (with_reducible refine (twoslotlaw09_alive.calls  true _ A2.out).mono ?_); rintro e w5 ⟨rfl, hb⟩; refine ⟨_, rfl, ?_⟩; replace HB := kH HB hb; (try clear hb); (try clear hb2); (try clear hk); (try clear hi)))
      go_ret
      exact ⟨by first | rfl | (simp [errW_none, errW_some] <;> rfl) | (simp [*, errW_none, errW_some] <;> rfl), by exact sH HB.out⟩
    · rw [if_neg c4] at H
      have c4b0 : decide (2000 < (l0.length : Int)) = false := decide_eq_false c4
      have c4b1 : decide (2000 < l0.length) = false := decide_eq_false (by omega)
      clear c4
      replace H := Option.bind_eq_some_iff.mp H
      obtain ⟨⟨t557, t558⟩, A60, H⟩ := H
      try dsimp only at H
      have A6 := Aside0.mk A60
      clear A60
      replace H := Option.bind_eq_some_iff.mp H
      obtain ⟨⟨t561, t562⟩, A70, H⟩ := H
      try dsimp only at H
      have A7 := Aside0.mk A70
      clear A70
      replace H := Option.bind_eq_some_iff.mp H
      obtain ⟨t565, A80, H⟩ := H
      try dsimp only at H
      have A8 := Aside0.mk A80
      clear A80
      by_cases c9 : t565 = true
      · subst c9
        have H1 : (some (t558 == t562)) = some r := by rw [if_pos rfl] at H; exact H
        clear H
        have H := H1
        clear H1
        obtain rfl := Option.some.inj H
        go_enter Try.func6, Try.ntmps6
        go_wp2_with (first | ((with_reducible refine gate_callee (f := 9) rfl ?_); refine goesL_ (some 8) rfl rfl Try.func9 (by kernel_rfl) rfl #[] rfl (by (try simp only [sM]); first | done | rfl | (simp only [sT]; rfl)) ?_; (with_reducible refine (twoslotlaw09_alive.calls  true _ A2.out).mono ?_); rintro e w10 ⟨rfl, hb⟩; refine ⟨_, rfl, ?_⟩; replace HB := kH HB hb; (try clear hb); (try clear hb2); (try clear hk); (try clear hi)) | ((with_reducible refine gate_callee (f := 12) rfl ?_); refine goesL_ (some 16) rfl rfl Try.func12 (by kernel_rfl) rfl #[.slice A0 l0.length c0] rfl (by (try simp only [sM]); first | done | rfl | (simp only [sT]; rfl)) ?_; (with_reducible refine (image_Rows.calls k _ _ l0 t557 t558 _ ?side1 ?side2 A6.out).mono ?_); (case side1 => exact sC (Kd.C_below HR0.out HB.out)); (case side2 => exact HC0.out); rintro e w11 ⟨v559, rfl, ho0, hb⟩; refine ⟨_, rfl, ?_⟩; have HO560 := Aside0.mk (Kd.R_lower ho0 (sZ HB)); replace HB := kH HB hb; (try clear hb); (try clear hb2); (try clear hk); (try clear hi); (try clear ho0)) | ((with_reducible refine gate_callee (f := 36) rfl ?_); refine goesL_ (some 21) rfl rfl Try.func36 (by kernel_rfl) rfl #[.slice A0 l0.length c0] rfl (by (try simp only [sM]); first | done | rfl | (simp only [sT]; rfl)) ?_; (with_reducible refine (twoslotref09_Rows.calls _ _ l0 t561 t562 _ ?side1 ?side2 A7.out).mono ?_); (case side1 => exact sC (Kd.C_below HR0.out HB.out)); (case side2 => exact HC0.out); rintro e w12 ⟨v563, rfl, ho0, hb⟩; refine ⟨_, rfl, ?_⟩; have HO564 := Aside0.mk (Kd.R_lower (Kd.R_new' ho0 (Kd.R_lt (sR HO560.out))) (sZ HB)); replace HO560 := Aside0.mk (Kd.R_elder' (sR HO560.out) (Kd.R_base ho0) hb); replace HB := kH HB hb; (try clear hb); (try clear hb2); (try clear hk); (try clear hi); (try clear ho0); obtain ⟨Ao13, co13, eo13⟩ := Kd.R_slice HO560.out; subst eo13; obtain ⟨Ao14, co14, eo14⟩ := Kd.R_slice HO564.out; subst eo14) | ((with_reducible refine gate_callee (f := 37) rfl ?_); refine goesL_ (some 26) rfl rfl Try.func37 (by kernel_rfl) rfl #[.slice Ao13 t557.length co13, .slice Ao14 t561.length co14] rfl (by (try simp only [sM]); first | done | rfl | (simp only [sT]; rfl)) ?_; (with_reducible refine (twoslotref07_Same.calls k _ _ t557 _ _ t561 true _ ?side1 ?side2 ?side3 ?side4 A8.out).mono ?_); (case side1 => exact sC (Kd.R_reads' HO560.out).2.2); (case side2 => exact (Kd.R_reads' HO560.out).2.1); (case side3 => exact sC (Kd.R_reads' HO564.out).2.2); (case side4 => exact (Kd.R_reads' HO564.out).2.1); rintro e w' ⟨rfl, ⟨nd, rfl⟩⟩; refine ⟨_, rfl, ?_⟩))
        go_ret
        exact ⟨by first | rfl | (simp [errW_none, errW_some] <;> rfl) | (simp [*, errW_none, errW_some] <;> rfl), by exact sH HB.out⟩
      · replace c9 := Bool.eq_false_iff.mpr c9
        subst c9
        have H1 : (none) = some r := by rw [if_neg (show ¬ (false = true) by decide)] at H; exact H
        clear H
        have H := H1
        clear H1
        exact absurd H (by simp)
  · replace c3 := Bool.eq_false_iff.mpr c3
    subst c3
    have H1 : (none) = some r := by rw [if_neg (show ¬ (false = true) by decide)] at H; exact H
    clear H
    have H := H1
    clear H1
    exact absurd H (by simp)

end Go.Proofs.Ytcnmocbiekfpbaa.P
