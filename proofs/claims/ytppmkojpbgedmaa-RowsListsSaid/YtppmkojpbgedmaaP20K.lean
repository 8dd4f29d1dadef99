import Derived.Test.YtppmkojpbgedmaaP20Ev
namespace Go.Proofs.Ytppmkojpbgedmaa.P
open Go.RowKit Go.Proofs.YtppmkojpbgedmaaW.PrintWords Go.Proofs.YtppmkojpbgedmaaW.PrintLast Go.Proofs.YtppmkojpbgedmaaW.PrintMore
attribute [local go_sem] max2_int min2_int max_two min_two max_three min_three max_four min_four
set_option linter.unusedVariables false
set_option linter.unusedSimpArgs false
theorem cut_over {P : Program} (t e : TypeId) (kh : IntKind) {i : TypeInfo} (ht : P.underlying t = some (.slice e)) (hi : P.info? e = some i) (A : Option Addr) (n c : Nat) (j : Int) (h0 : 0 ≤ j) (hm : j ≤ c) :
    ∀ W : World, (Instr.slice t (.slice A n c) none (some (.int kh j)) none).run P W = .ok (.slice A j.toNat c) W := by
  intro W
  have hel : P.elem t = e := by simp [Program.elem, ht]
  have hu : P.underlying t = some (.slice (P.elem t)) := by rw [hel]; exact ht
  have ha : (A.map fun x => x.add 0) = A := by cases A <;> simp [Addr.add]
  rw [run_slice_h W t A n c hu kh j h0 (by omega), hel]
  simp [sizeOf, typeInfo, hi, sliced, Result.andThen, ha]
theorem rd_mark (l : List Int) (m : Int) : rd (l ++ [m]) (l.length : Int) = m := by
  unfold rd
  simp
theorem marked_take {w : World} {A : Option Addr} {l : List Int} (h : Kd.C (Kd.int .i64) w A (l.length + 1) (l ++ [77])) : Kd.C (Kd.int .i64) w A l.length l := by
  have := Kd.C_take (m := l.length) (show Kd.C (Kd.int .i64) w A (l ++ [(77 : Int)]).length (l ++ [(77 : Int)]) by rw [List.length_append]; exact h) (by simp)
  rwa [List.take_left] at this
set_option maxHeartbeats 8000000 in
set_option maxRecDepth 100000 in
theorem kept2 (k : Nat) (A0 : Option Addr) (c0 : Nat) (l : List Int) (A1 : Option Addr) (c1 : Nat) (w : World) (h0 : Kd.C (Kd.int .i64) w A0 (l.length + 1) (l ++ [77])) (hc0 : l.length + 1 ≤ c0) (h1 : Kd.C (Kd.int .i64) w A1 l.length l) (hc1 : l.length ≤ c1) (hl : l.length ≤ 100000) (hk : l.length < k) :
    Calls Try.prog 18 #[.slice A0 l.length c0, .slice A1 l.length c1] w fun e w' => e = .returned (.bool true) ∧ Drawn0 w w' := by
  have h0' := marked_take h0
  obtain ⟨n1, hn1⟩ : ∃ n1, n1 = l.length + 1 := ⟨_, rfl⟩
  have h0m : Kd.C (Kd.int .i64) w A0 (l ++ [(77 : Int)]).length (l ++ [77]) := by rw [List.length_append]; exact h0
  obtain ⟨ad, e0, hx0⟩ := Kd.at_int h0m (l.length : Int) (by omega) (by rw [List.length_append]; simp; omega)
  rw [← hn1] at h0 hc0
  subst e0
  rw [rd_mark] at hx0
  have hj : wrap64 ((l.length : Int) + 1) = (n1 : Int) := by unfold wrap64; omega
  have hj2 : IntKind.i64.wrap ((l.length : Int) + 1) = (n1 : Int) := (i64_w _).trans hj
  have b1 : decide ((l.length : Int) < (n1 : Int)) = true := decide_eq_true (by omega)
  have b2 : decide (l.length < n1) = true := decide_eq_true (by omega)
  have b3 : (0 ≤ (l.length : Int)) = True := eq_true (by omega)
  have b4 : ((l.length : Int) < (n1 : Int)) = True := eq_true (by omega)
  have b5 : (l.length < n1) = True := eq_true (by omega)
  obtain ⟨i0, hi, _, hsz, _⟩ := info_parts info3
  have hcut := cut_over (P := Try.prog) 26 3 .i64 Try.underlying26 hi (some ad) l.length c0 (n1 : Int) (by omega) (by omega)
  simp only [Int.toNat_natCast] at hcut hx0
  have HE := Aside0.mk (same_ev l hl k hk)
  have HA := Aside0.mk h0'
  have HB := Aside0.mk h1
  have HC := Aside0.mk (show l.length ≤ c0 by omega)
  have HD := Aside0.mk hc1
  clear h0 h0' h0m h1 hn1 hc0 hc1 hl hk hi hsz
  go_enter Try.func18, Try.ntmps18
  go_wp2_with (go_at_call 16; (with_reducible refine (twoslotref07_Same.calls k _ _ l _ _ l true _ ?s1 HC.out ?s3 HD.out HE.out).mono ?_); (case s1 => exact HA.out); (case s3 => exact HB.out); rintro e w' ⟨rfl, ⟨nd, rfl⟩⟩)
  go_ret
  exact ⟨rfl, by repeat (first | exact Drawn0.refl _ | apply Drawn0.step)⟩
set_option maxHeartbeats 8000000 in
set_option maxRecDepth 100000 in
theorem lent2 (A0 : Option Addr) (c0 : Nat) (l : List Int) (w : World) (h0 : Kd.C (Kd.int .i64) w A0 l.length l) (hc0 : l.length ≤ c0) (hl : l.length ≤ 100000) :
    Calls Try.prog 12 #[.slice A0 l.length c0] w fun e w' => ∃ (A : Option Addr) (c : Nat), e = .returned (.slice A l.length c) ∧ l.length + 1 ≤ c ∧ Foot (fun W => Kd.C (Kd.int .i64) W A (l.length + 1) (l ++ [77])) w' (fun k => w.heap.size ≤ k) ∧ Below w.heap.size w w' := by
  have hu := Try.underlying3
  have HR0 := Aside0.mk h0
  have HC0 := Aside0.mk hc0
  have HL := Aside0.mk hl
  obtain ⟨y, hy⟩ : ∃ y, y = l ++ [(77 : Int)] := ⟨_, rfl⟩
  have NY := Aside0.mk hy
  clear h0 hc0 hl hy
  have HB := Aside0.mk (Below.refl w.heap.size w)
  go_enter Try.func12, Try.ntmps12
  go_wp2_with (first | ((with_reducible refine gate_builtin (b := .append) (xs := #[.tmp 4, .tmp 5]) rfl ?_); at_builtin; refine Kd.R_append_rows (Kd.int .i64) (w0 := w) w.heap.size rfl (.tmp 4) (.tmp 5) 26 3 (.int .i64 0) 8 rfl Try.underlying26 info3 rfl (by decide) (by omega) (.slice none 0 0) ([] : List Int) l _ _ _ (fun _ => True) (fun _ => False) rfl rfl ?aO ?aR (fun _ _ h => h) (fun _ h => h.elim) ?aF ?aB ?aS ?aL ?_; (case aR => exact HR0.out); (case aB => exact HB.out); (case aF => exact (fun _ _ => trivial)); (case aO => exact ((Kd.R_nil _ _ _ _ (fun _ => True)))); (case aS => exact HB.out.size); (case aL => have := HL.out; simp; omega); intro v1 w6 ho hb hg hat; rw [List.nil_append] at ho; clear HB; have HB := Aside0.mk hb; have HO := Aside0.mk ho; clear ho hb hg hat) | ((with_reducible refine gate_builtin (b := .append) (xs := #[.tmp 7, .tmp 8]) rfl ?_); at_builtin; refine Kd.R_append (Kd.int .i64) (w0 := w) w.heap.size rfl (.tmp 7) (.tmp 8) 26 3 (.int .i64 0) 8 rfl Try.underlying26 info3 rfl (by decide) (by omega) v1 l (77 : Int) [.int .i64 77] (fun _ => True) (fun _ => False) rfl rfl ?aP (fun _ hk => hk.elim) ?aF ?aO ?aB ?aS ?aL ?_; (case aP => exact rfl); (case aB => exact (by repeat (first | (with_reducible first | exact HB.out | apply below_alloc | apply pw_below_drewN | apply below_drew1) | exact HB.out))); (case aF => exact (fun _ _ => trivial)); (case aO => exact (by (with_reducible repeat (first | apply Kd.R_alloc | apply Kd.R_drewN | apply Kd.R_drew)); exact HO.out)); (case aS => exact (below_size (by repeat (first | (with_reducible first | exact HB.out | apply below_alloc | apply pw_below_drewN | apply below_drew1) | exact HB.out)))); (case aL => have := HL.out; omega); intro v2 w7 ho hb hg hat; rw [← NY.out] at ho; clear HB HO; have HB := Aside0.mk hb; have HO := Aside0.mk ho; clear ho hb hg hat; obtain ⟨A, c, e8⟩ := Kd.R_slice HO.out; subst e8; obtain ⟨i0, hi, _, hsz, _⟩ := info_parts info3; have hcut := cut_to (P := Try.prog) 26 3 .i64 Try.underlying26 hi A y.length c (l.length : Int) (by omega) (by rw [NY.out, List.length_append]; omega) (Kd.R_reads' HO.out).2.1; simp only [Int.toNat_natCast] at hcut; clear hi hsz))
  go_ret
  refine ⟨A, c, rfl, ?_, ?_, HB.out⟩
  · have := (Kd.R_reads' HO.out).2.1
    rwa [NY.out, List.length_append] at this
  · have h1 := Kd.R_F (Kd.R_bound HO.out)
    rw [NY.out, List.length_append] at h1
    exact Kd.F_mono h1 (fun _ hk => hk.2.1)
end Go.Proofs.Ytppmkojpbgedmaa.P
