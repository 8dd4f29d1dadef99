import Derived.Test.YtmhfgcmgeglmhaaDoorP21F
namespace Go.Proofs.YtmhfgcmgeglmhaaDoor.P
open Go.RowKit Go.Proofs.YtmhfgcmgeglmhaaDoorW.PrintWords Go.Proofs.YtmhfgcmgeglmhaaDoorW.PrintLast Go.Proofs.YtmhfgcmgeglmhaaDoorW.PrintMore
attribute [local go_sem] max2_int min2_int max_two min_two max_three min_three max_four min_four
set_option linter.unusedVariables false
set_option linter.unusedSimpArgs false
theorem prefix34 {s : ByteArray} (h : Lib.hasPrefix s.data.toList [34] = true) : 1 ≤ s.size ∧ bt s 0 = 34 := by
  unfold Lib.hasPrefix at h
  have hl := data_length s
  rcases hd : s.data.toList with _ | ⟨a, l⟩
  · rw [hd] at h; simp at h
  · rw [hd] at h hl
    simp at h hl
    have e0 := rd_bytesOf s 0
    simp [rd, bytesOf, hd] at e0
    exact ⟨by omega, by rw [← e0, ← h]; rfl⟩
def name_Plain.f (s : ByteArray) : Option (ByteArray × Int × Int) := if s.size ≤ 140737488351232 then some (if Lib.hasPrefix s.data.toList [34] = true then plainP s s.size 1 [] else (⟨#[]⟩, 0, 6)) else none
set_option maxHeartbeats 2000000 in
theorem Plain.bad (s : ByteArray) (w : World) (hp : Lib.hasPrefix s.data.toList [34] = false) : Calls Tryd.prog 11 #[.string s] w fun e w' => e = .returned (.tuple #[.string ⟨#[]⟩, .int .i64 0, .int .i64 6]) ∧ Below w.heap.size w w' := by
  have HB := Aside0.mk (Below.refl w.heap.size w)
  go_enter Tryd.func11, Tryd.ntmps11
  go_wp2_with (go_at_call 28; refine (Tryd.strings_HasPrefix s _ _).mono ?_; rintro e wh ⟨rfl, hw⟩; have hw2 := hw.symm; subst hw2)
  go_ret3
  exact ⟨rfl, HB.out⟩
theorem name_Plain.calls (a0 : ByteArray) (r1 : ByteArray) (r2 r3 : Int) (w : World) (hV : VarsOk w) (h : name_Plain.f a0 = some (r1, r2, r3)) : Calls Tryd.prog 11 #[.string a0] w fun e w' => e = .returned (.tuple #[.string r1, .int .i64 r2, .int .i64 r3]) ∧ Below w.heap.size w w' := by
  unfold name_Plain.f at h
  by_cases hs : a0.size ≤ 140737488351232
  · rw [if_pos hs] at h
    injection h with h
    by_cases hp : Lib.hasPrefix a0.data.toList [34] = true
    · rw [if_pos hp] at h
      have h3 := prefix34 hp
      exact Plain.good a0 (r1, r2, r3) w hp h3.1 (by rw [h3.2]; omega) hs hV h
    · rw [if_neg hp] at h
      injection h with h1 h2
      injection h2 with h2 h3
      subst h1 h2 h3
      exact Plain.bad a0 w (by simpa using hp)
  · rw [if_neg hs] at h
    simp at h
end Go.Proofs.YtmhfgcmgeglmhaaDoor.P
