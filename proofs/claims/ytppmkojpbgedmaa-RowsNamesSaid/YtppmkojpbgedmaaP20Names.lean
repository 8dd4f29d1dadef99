import Derived.Test.YtppmkojpbgedmaaP20Ev
import Derived.Test.YtppmkojpbgedmaaPx10
namespace Go.Proofs.Ytppmkojpbgedmaa.P
open Go.RowKit Go.Proofs.YtppmkojpbgedmaaW.PrintWords Go.Proofs.YtppmkojpbgedmaaW.PrintLast Go.Proofs.YtppmkojpbgedmaaW.PrintMore
attribute [local go_sem] max2_int min2_int max_two min_two max_three min_three max_four min_four
set_option linter.unusedVariables false
set_option linter.unusedSimpArgs false
/-! ### RowsNames: plain -/
theorem RowsNames.ev : twoslotlaw20_RowsNames.f 30 = some true := by
  unfold twoslotlaw20_RowsNames.f
  rw [alive_ev 30 (by omega), Option.bind_some, if_pos rfl, sample_ev, Option.bind_some]
  have hp : okP 2 1 16 8 = true := by decide
  have hp0 : okP 0 0 0 0 = false := by decide
  have hlen : (List.replicate 65537 (0 : Int)).length = 65537 := List.length_replicate
  have htk : (List.replicate 65537 (0 : Int)).take 65536 = List.replicate 65536 0 := by rw [List.take_replicate]; rfl
  generalize List.replicate 65537 (0 : Int) = many at hlen htk ⊢
  have hmv : lv 8 many = 20 := by unfold lv; rw [if_pos (by omega)]
  have f1 : rows_Free.f 2 1 16 8 (List.replicate 65536 0) = some ([1, 2, 3, 4, 5, 6, 7], 0) := by
    unfold rows_Free.f
    rw [if_pos hp, if_neg (by rw [List.length_replicate]; omega), if_pos]
    · rw [freeOf_congr (l' := [0]) (fun i _ => by rw [List.mem_replicate]; simp)]
      rfl
    · unfold inAll
      rw [List.all_eq_true]
      intro x hx
      rw [(List.mem_replicate.mp hx).2]
      decide
  have f2 : rows_Free.f 2 1 16 8 many = some ([], 20) := by
    unfold rows_Free.f
    rw [if_pos hp, if_pos (by omega)]
  have f3 : rows_Free.f 0 0 0 0 many = some ([], 2) := by
    unfold rows_Free.f
    rw [if_neg (by rw [hp0]; decide)]
  have f4 : rows_Free.f 2 1 16 8 [-1] = some ([], 200) := by decide
  have t1 : takeV 2 1 16 8 many (-1) = ([], [], 20) := by unfold takeV; rw [if_pos hp, hmv, if_neg (by decide)]
  have h00 : lv 8 [0, 0] = 200 := by decide
  have h01 : lv 8 [0, 1] = 0 := by decide
  have h10 : lv 8 [1, 0] = 200 := by decide
  have h3 : lv 8 [3] = 0 := by decide
  have h8 : lv 8 [8] = 200 := by decide
  have hn : lv 8 [] = 0 := by decide
  have t2 : takeV 2 1 16 8 [0, 0] (-1) = ([], [], 200) := by unfold takeV; rw [if_pos hp, h00, if_neg (by decide)]
  have t3 : takeV 2 1 16 8 [0, 1] (-1) = ([], [], 2) := by unfold takeV; rw [if_pos hp, if_pos h01, if_pos (by decide)]
  have g1 : giveV 2 1 16 8 [0, 0] many = ([], 200) := by unfold giveV; rw [if_pos hp, h00, if_neg (by decide)]
  have g2 : giveV 2 1 16 8 [] many = ([], 20) := by unfold giveV; rw [if_pos hp, if_pos hn, hmv, if_neg (by decide)]
  have g3 : giveV 2 1 16 8 [] [1, 0] = ([], 200) := by unfold giveV; rw [if_pos hp, if_pos hn, h10, if_neg (by decide)]
  have g4 : giveV 2 1 16 8 [3] [8] = ([], 200) := by unfold giveV; rw [if_pos hp, if_pos h3, h8, if_neg (by decide)]
  have l1 : many.length < 30 ∨ 65536 < many.length := .inr (by omega)
  simp only []
  rw [if_pos (by omega), Option.bind_some]
  rw [if_pos (by omega)]
  rw [htk, f1, Option.bind_some, f2, Option.bind_some, take_ev 2 1 16 8 many (-1) 30 l1, Option.bind_some, take_ev 2 1 16 8 [0, 0] (-1) 30 (.inl (by simp)), Option.bind_some, take_ev 2 1 16 8 [0, 1] (-1) 30 (.inl (by simp)), Option.bind_some,
    give_ev 2 1 16 8 [0, 0] many 30 (.inl (by simp)) l1, Option.bind_some, give_ev 2 1 16 8 [] many 30 (.inl (by simp)) l1, Option.bind_some, give_ev 2 1 16 8 [] [1, 0] 30 (.inl (by simp)) (.inl (by simp)), Option.bind_some, give_ev 2 1 16 8 [3] [8] 30 (.inl (by simp)) (.inl (by simp)), Option.bind_some, f3, Option.bind_some, f4, Option.bind_some, t1, t2, t3, g1, g2, g3, g4]
  rfl
end Go.Proofs.Ytppmkojpbgedmaa.P
