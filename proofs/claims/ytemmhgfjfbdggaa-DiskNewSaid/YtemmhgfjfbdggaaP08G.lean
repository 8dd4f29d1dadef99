import Derived.Test.YtemmhgfjfbdggaaP08O
namespace Go.Proofs.Ytemmhgfjfbdggaa.P
open Go.RowKit Go.Proofs.YtemmhgfjfbdggaaW.PrintWords Go.Proofs.YtemmhgfjfbdggaaW.PrintLast Go.Proofs.YtemmhgfjfbdggaaW.PrintMore
attribute [local go_sem] max2_int min2_int max_two min_two max_three min_three max_four min_four
set_option linter.unusedVariables false
set_option linter.unusedSimpArgs false
set_option maxHeartbeats 8000000 in
set_option maxRecDepth 100000 in
theorem Gone_walk (g : Nat) (a b c d : Int) (off : Bool) (cut wr0 : Int) (A4 A7 : Option Addr) (n4 c4 c7 : Nat) (gone : List Bool) (w : World) (hD : w.heap[g]? = some (.cells #[.int .i64 a, .int .i64 b, .int .i64 c, .int .i64 d, .slice A4 n4 c4, .bool off, .int .i64 cut, .slice A7 gone.length c7, .int .i64 wr0] 80 (0, 0))) (hG : Kd.C Kd.bool w A7 gone.length gone) (hl : gone.length ≤ 1000000) : Calls Try.prog 43 #[.pointer (some ⟨g, 0, none⟩)] w fun e w' => ∃ v : Value, e = .returned v ∧ Kd.R (Kd.int .i64) 3 w' w.heap.size (fun _ => True) v (wipedOf gone.length gone) ∧ Below w.heap.size w w' := by
  have HB := Aside0.mk (Below.refl w.heap.size w)
  have BKg := Aside0.mk hD
  have HG := Aside0.mk hG
  have HL := Aside0.mk hl
  clear hD hG hl
  go_enter Try.func43, Try.ntmps43
  go_wp2_with (fail)
  go_loopg [3, 4] gone.length (fun kq v3 v4 wr => ∃ k : Nat, v4 = .int .i64 (k : Int) ∧ Aside0 (k ≤ gone.length ∧ gone.length - k ≤ kq) ∧ Aside0 (Kd.R (Kd.int .i64) 3 wr w.heap.size (fun _ => True) v3 (wipedOf k gone)) ∧ Aside0 (Below w.heap.size w wr))
  case atStart => exact ⟨0, rfl, Aside0.mk ⟨by omega, by omega⟩, Aside0.mk (Kd.R_nil _ _ _ _ _), HB⟩
  case round =>
    clear HB
    obtain ⟨k, rfl, AX, HO, HB⟩ := hrel
    have hbk := blk_below BKg.out HB.out
    have hc7 : wr.cell? ⟨g, 7, none⟩ = some (.slice A7 gone.length c7) := (blk_cell hbk 7).trans rfl
    have hf7 := blk_frozen hbk 7
    clear hbk
    by_cases hlt : k < gone.length
    · obtain ⟨ad, eA, hx0⟩ := Kd.at_bool HG.out (k : Int) (by omega) (by omega)
      subst eA
      rw [rdOf, Int.toNat_natCast] at hx0
      have b1 : decide ((k : Int) < (gone.length : Int)) = true := decide_eq_true (by omega)
      have b2 : decide (k < gone.length) = true := decide_eq_true hlt
      have b3 : (k < gone.length) = True := eq_true hlt
      have hx := pw_cell_below HB.out hx0
      have HK := Aside0.mk hlt
      clear hlt hx0
      have AL := Aside0.mk (wipedOf_len k gone)
      by_cases hg : gone.getD k false = true
      · rw [hg] at hx
        have AJ := Aside0.mk (wipedOf_yes hg)
        clear hg
        go_wp2_with ((with_reducible refine gate_builtin (b := .append) (xs := #[.tmp 21, .tmp 23]) rfl ?_); at_builtin; refine Kd.R_append (Kd.int .i64) (w0 := w) w.heap.size rfl (.tmp 21) (.tmp 23) 54 3 (.int .i64 0) 8 rfl Try.underlying54 infoI64 rfl (by decide) (by omega) _ (wipedOf k gone) (k : Int) [.int .i64 (k : Int)] (fun _ => True) (fun _ => False) rfl rfl rfl (fun _ hk => hk.elim) (fun _ _ => trivial) HO.out HB.out HB.out.size (by have := AL.out; have := HK.out; have := HL.out; omega) ?_; intro v9 w9 ho hb hg hat; rw [← AJ.out] at ho; clear HB HO hc7 hf7 hx; have HB := Aside0.mk hb; have HO := Aside0.mk ho; clear hb ho hg hat)
        go_roundg (gk - 1)
        case measure =>
          have := AX.out
          have := HK.out
          omega
        case rel =>
          have h1 := AX.out
          have h2 := HK.out
          have h3 := HL.out
          exact ⟨k + 1, by rw [show wrap64 ((k : Int) + 1) = ((k + 1 : Nat) : Int) by unfold wrap64; omega], Aside0.mk ⟨by omega, by omega⟩, HO, HB⟩
      · have hg : gone.getD k false = false := by simpa using hg
        rw [hg] at hx
        have AJ := Aside0.mk (wipedOf_no hg)
        clear hg
        go_wp2
        go_roundg (gk - 1)
        case measure =>
          have := AX.out
          have := HK.out
          omega
        case rel =>
          have h1 := AX.out
          have h2 := HK.out
          have h3 := HL.out
          exact ⟨k + 1, by rw [show wrap64 ((k : Int) + 1) = ((k + 1 : Nat) : Int) by unfold wrap64; omega], Aside0.mk ⟨by omega, by omega⟩, Aside0.mk (by rw [AJ.out]; exact HO.out), HB⟩
    · have b1 : decide ((k : Int) < (gone.length : Int)) = false := decide_eq_false (by omega)
      have b2 : decide (k < gone.length) = false := decide_eq_false hlt
      have e : k = gone.length := by
        have := AX.out
        omega
      clear hlt
      go_wp2
      go_ret
      refine ⟨_, rfl, ?_, HB.out⟩
      have := HO.out
      rwa [e] at this
end Go.Proofs.Ytemmhgfjfbdggaa.P
