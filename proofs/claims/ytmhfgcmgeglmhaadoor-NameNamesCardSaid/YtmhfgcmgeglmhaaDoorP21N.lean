import Derived.Test.YtmhfgcmgeglmhaaDoorP21U
import Derived.Test.YtmhfgcmgeglmhaaDoorPx12
namespace Go.Proofs.YtmhfgcmgeglmhaaDoor.P
open Go.RowKit Go.Proofs.YtmhfgcmgeglmhaaDoorW.PrintWords Go.Proofs.YtmhfgcmgeglmhaaDoorW.PrintLast Go.Proofs.YtmhfgcmgeglmhaaDoorW.PrintMore
attribute [local go_sem] max2_int min2_int max_two min_two max_three min_three max_four min_four
set_option linter.unusedVariables false
set_option linter.unusedSimpArgs false

/-! ### NameNames -/
theorem some_up {α : Type} {g : Nat → Option α} {r : α} (hm : ∀ k, LeO (g k) (g (k + 1))) {k0 : Nat} (h : g k0 = some r) (k : Nat) (hk : k0 ≤ k) : g k = some r := by
  obtain ⟨d, rfl⟩ : ∃ d, k = k0 + d := ⟨k - k0, by omega⟩
  clear hk
  induction d with
  | zero => exact h
  | succ d ih => exact hm _ _ ih
def R24 : ByteArray := strOfNums (List.replicate 24 255)
def R25 : ByteArray := strOfNums (List.replicate 25 97)
theorem row24 (k : Nat) (hk : 60 ≤ k) : twoslotlaw21_row.f k 24 255 = some R24 := some_up (fun k => twoslotlaw21_row.mono 24 255 k) (k0 := 60) (by kernel_rfl) k hk
theorem row25 (k : Nat) (hk : 60 ≤ k) : twoslotlaw21_row.f k 25 97 = some R25 := some_up (fun k => twoslotlaw21_row.mono 25 97 k) (k0 := 60) (by kernel_rfl) k hk
theorem size24 : R24.size = 24 := by unfold R24; rw [size_nums, List.length_replicate]
theorem size25 : R25.size = 25 := by unfold R25; rw [size_nums, List.length_replicate]
theorem quote24 : name_Quote.f R24 = some (strOfNums (quotedL R24), 0) := by
  unfold name_Quote.f
  rw [if_pos (by rw [size24]; omega)]
theorem quote25 : name_Quote.f R25 = some (⟨#[]⟩, 6) := by
  unfold name_Quote.f
  rw [if_neg (by rw [size25]; omega)]
theorem plain25 : name_Plain.f (((⟨#[34]⟩ : ByteArray) ++ R25) ++ (⟨#[34]⟩ : ByteArray)) = some (⟨#[]⟩, 0, 6) := by kernel_rfl
theorem bucket24 : bucketB R24 = (0, 0) := by kernel_rfl
theorem one_ev (x : Nat) (hx : x < 256) : name_Quote.f (strOfNums [(x : Int)]) = some (strOfNums (quotedL (strOfNums [(x : Int)])), 0) ∧ name_Plain.f (strOfNums (quotedL (strOfNums [(x : Int)]))) = some (strOfNums [(x : Int)], 0, 0) ∧ bucketB (strOfNums [(x : Int)]) = ((x : Int) % 4, 0) := by
  have hI : IsB [(x : Int)] := fun y hy => by simp at hy; omega
  have hs : (strOfNums [(x : Int)]).size = 1 := by rw [size_nums]; rfl
  refine ⟨?_, plain_quote _ (by omega) (by omega), ?_⟩
  · unfold name_Quote.f
    rw [if_pos (by omega)]
  · unfold bucketB
    rw [if_pos (by omega), nums_bytes hI]
    simp [sumL]
theorem many_ev (R : List ByteArray) (hl : R.length = 65537) (hm : ∀ x ∈ R, x = ⟨#[]⟩) : sortP R = ([], 20) ∧ sortP (R.drop 1) = ([], 6) := by
  have hd : (R.drop 1).length = 65536 := by rw [List.length_drop, hl]
  refine ⟨by unfold sortP; rw [if_pos (by omega)], sortP_bad (by omega) ?_⟩
  have h0 : 0 < (R.drop 1).length := by omega
  refine badAny_of h0 ?_
  rw [hm _ (List.mem_of_mem_drop (List.getElem_mem h0))]
  rfl
set_option maxRecDepth 100000 in
theorem names_loop : ∀ (n i K : Nat), i ≤ 256 → 256 - i = n → n + 200 ≤ K → twoslotlaw21_NameNames.l0 K (i : Int) = some true := by
  intro n
  induction n with
  | zero =>
    intro i K hi hn hK
    obtain ⟨K, rfl⟩ : ∃ m, K = m + 1 := ⟨K - 1, by omega⟩
    rw [twoslotlaw21_NameNames.l0, if_neg (by omega)]
    generalize hR : List.replicate 65537 (⟨#[]⟩ : ByteArray) = R
    have hl : R.length = 65537 := by rw [← hR, List.length_replicate]
    have hm : ∀ x ∈ R, x = ⟨#[]⟩ := by
      intro x hx
      rw [← hR] at hx
      exact List.eq_of_mem_replicate hx
    clear hR
    obtain ⟨s1, s2⟩ := many_ev R hl hm
    have e1 : ((⟨#[34]⟩ : ByteArray) ++ R25).size = 26 := by rw [ByteArray.size_append, size25]; rfl
    rw [row24 K (by omega), row25 K (by omega), Option.bind_some, quote24, Option.bind_some, Option.bind_some, quote25, Option.bind_some, Option.bind_some, if_pos (by rw [size25]; omega), if_pos (by rw [e1]; omega), plain25, Option.bind_some]
    rw [plain_quote R24 (by rw [size24]; omega) (by rw [size24]; omega), Option.bind_some, Option.bind_some, bucket_ev R24 K (by omega), bucket24, Option.bind_some, if_pos (by omega), Option.bind_some]
    rw [nameSort_ev, s1, Option.bind_some, if_pos (by rw [hl]; omega), nameSort_ev, s2, Option.bind_some]
    rw [if_pos rfl, if_pos rfl, if_pos rfl, if_pos rfl, if_pos rfl, Option.bind_some, if_pos rfl, if_pos rfl, if_pos rfl, if_pos rfl]
    rfl
  | succ n ih =>
    intro i K hi hn hK
    obtain ⟨K, rfl⟩ : ∃ m, K = m + 1 := ⟨K - 1, by omega⟩
    obtain ⟨h1, h2, h3⟩ := one_ev i (by omega)
    have em : (i : Int) % 256 = (i : Int) := by omega
    have et : (i : Int) % 4 = Int.tmod (i : Int) 4 := (Int.tmod_eq_emod_of_nonneg (by omega)).symm
    rw [twoslotlaw21_NameNames.l0, if_pos (by omega), em, Option.bind_some, h1, Option.bind_some, h2, Option.bind_some, bucket_ev _ K (by omega), h3, Option.bind_some, refQuote_ev _ K (by omega), h1, Option.bind_some]
    rw [if_pos rfl, if_pos rfl, if_pos rfl, if_pos rfl, if_pos rfl, if_pos rfl, if_pos et]
    rw [next64 i (by omega)]
    exact ih (i + 1) K (by omega) (by omega) (by omega)
theorem nameNames_pure : twoslotlaw21_NameNames.Pure := by
  refine ⟨1000, ?_⟩
  unfold twoslotlaw21_NameNames.f
  rw [alive_ev 1000 (by omega), Option.bind_some, if_pos rfl]
  exact names_loop 256 0 1000 (by omega) rfl (by omega)
end Go.Proofs.YtmhfgcmgeglmhaaDoor.P
