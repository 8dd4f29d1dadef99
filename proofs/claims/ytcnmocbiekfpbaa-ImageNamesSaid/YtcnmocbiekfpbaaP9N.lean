import Derived.Test.YtcnmocbiekfpbaaPx16
import Derived.Test.YtcnmocbiekfpbaaP9V
import Derived.Test.YtcnmocbiekfpbaaP9M
import Derived.Test.YtcnmocbiekfpbaaPx18
namespace Go.Proofs.Ytcnmocbiekfpbaa.P
open Go.RowKit Go.Proofs.YtcnmocbiekfpbaaW.PrintWords Go.Proofs.YtcnmocbiekfpbaaW.PrintLast Go.Proofs.YtcnmocbiekfpbaaW.PrintMore
attribute [local go_sem] max2_int min2_int max_two min_two max_three min_three max_four min_four
set_option linter.unusedVariables false
set_option linter.unusedSimpArgs false
/-! ### ImageNames -/
def manyG (i j : Nat) : S35 := if j < i then ⟨0, ((j % 3 : Nat) : Int), 0, []⟩ else z35
def manyL (N i : Nat) : List S35 := (List.range N).map (manyG i)
theorem manyL_len (N i : Nat) : (manyL N i).length = N := by simp [manyL]
theorem manyL_get (N i j : Nat) (h : j < N) : rd_T35 (manyL N i) (j : Int) = manyG i j := by
  rw [rdT_nat (by rw [manyL_len]; exact h)]
  simp [manyL]
theorem manyL_set {N i : Nat} {v : S35} (hv : v = ⟨0, ((i % 3 : Nat) : Int), 0, []⟩) : (manyL N i).set i v = manyL N (i + 1) := by
  refine List.ext_getElem (by rw [List.length_set, manyL_len, manyL_len]) (fun j h1 h2 => ?_)
  rw [List.getElem_set]
  by_cases e : i = j
  · subst e
    rw [if_pos rfl, hv]
    simp [manyL, manyG]
  · rw [if_neg e]
    simp only [manyL, List.getElem_map, List.getElem_range]
    unfold manyG
    by_cases h : j < i
    · rw [if_pos h, if_pos (by omega)]
    · rw [if_neg h, if_neg (by omega)]
theorem tmod3 (i : Nat) : Int.tmod (i : Int) 3 = ((i % 3 : Nat) : Int) := by
  rw [Int.tmod_eq_emod_of_nonneg (by omega)]
  omega
theorem names_loop (x4 x6 x9 a0 a1 a2 a3 : Int) (s : List (List Int)) (b0 b1 b2 b3 c0 c1 c2 c3 : Int) (t : List (List Int)) (N : Nat) (hN : N ≤ 100000) : ∀ (q k i : Nat), i + q = N →
    twoslotlaw09_ImageNames.l0 (k + q) x4 x6 x9 (manyL N i) (i : Int) a0 a1 a2 a3 s b0 b1 b2 b3 c0 c1 c2 c3 t = twoslotlaw09_ImageNames.l0 k x4 x6 x9 (manyL N N) (N : Int) a0 a1 a2 a3 s b0 b1 b2 b3 c0 c1 c2 c3 t := by
  intro q
  induction q with
  | zero =>
    intro k i hi
    obtain rfl : i = N := by omega
    rfl
  | succ q ih =>
    intro k i hi
    have hlt : i < N := by omega
    have hg : manyG i i = z35 := if_neg (by omega)
    have hl := manyL_len N i
    have e1 : (manyL N i).set i (⟨(rd_T35 (manyL N i) (i : Int)).f0, (rd_T35 (manyL N i) (i : Int)).f1, (rd_T35 (manyL N i) (i : Int)).f2, (List.replicate 0 0)⟩ : S35) = manyL N i := by
      rw [manyL_get N i i hlt, hg]
      refine List.ext_getElem (by rw [List.length_set]) (fun j h1 h2 => ?_)
      rw [List.getElem_set]
      by_cases e : i = j
      · subst e
        rw [if_pos rfl]
        simp [manyL, manyG, z35]
      · rw [if_neg e]
    rw [show k + (q + 1) = (k + q) + 1 by omega, twoslotlaw09_ImageNames.l0, if_pos (by omega), if_pos (by decide), if_pos (by omega), Option.bind_some, Int.toNat_natCast, e1, manyL_get N i i hlt, hg, tmod3, manyL_set (v := (⟨z35.f0, ((i % 3 : Nat) : Int), z35.f2, z35.f3⟩ : S35)) rfl, next9 hlt (by omega)]
    exact ih k (i + 1) (by omega)
theorem names_met (N : Nat) (h : 3 ≤ N) : metRows (manyL N N) = [0, 1, 2] := by
  have hs := metFold_srt (manyL N N) [] List.Pairwise.nil
  refine strict_ext _ _ hs.1 (by decide) (fun y => ?_)
  refine (hs.2 y).trans ?_
  constructor
  · rintro (h | h)
    · cases h
    · obtain ⟨x, hx, rfl⟩ := List.mem_map.mp h
      obtain ⟨j, hj, rfl⟩ := List.mem_map.mp hx
      have hj := List.mem_range.mp hj
      unfold manyG
      rw [if_pos hj]
      show ((j % 3 : Nat) : Int) ∈ _
      have : j % 3 = 0 ∨ j % 3 = 1 ∨ j % 3 = 2 := by omega
      rcases this with e | e | e <;> rw [e] <;> simp
  · intro h
    refine .inr ?_
    have key : ∀ m : Nat, m < 3 → ((m : Nat) : Int) ∈ (manyL N N).map (·.f1) := by
      intro m hm
      refine List.mem_map.mpr ⟨manyG N m, List.mem_map.mpr ⟨m, List.mem_range.mpr (by omega), rfl⟩, ?_⟩
      unfold manyG
      rw [if_pos (by omega)]
      show ((m % 3 : Nat) : Int) = (m : Int)
      omega
    simp only [List.mem_cons, List.not_mem_nil, or_false] at h
    rcases h with rfl | rfl | rfl
    · exact key 0 (by omega)
    · exact key 1 (by omega)
    · exact key 2 (by omega)
theorem manyL_take (N m : Nat) (h : m ≤ N) : (manyL N N).take m = manyL m m := by
  refine List.ext_getElem (by rw [List.length_take, manyL_len, manyL_len]; omega) (fun j h1 h2 => ?_)
  rw [manyL_len] at h2
  rw [List.getElem_take]
  simp only [manyL, List.getElem_map, List.getElem_range]
  unfold manyG
  rw [if_pos (by omega), if_pos h2]
theorem names_end (N : Nat) (hN : N = 65537) (s t : List (List Int)) (hs : chkV 12 4 64 256 s = 0) (hsl : (s.length : Int) = 8192) (ht : chkV 2 1 16 8 t = 0) (htl : (t.length : Int) = 48) (k : Nat) (hk : 100000 ≤ k) :
    twoslotlaw09_ImageNames.l0 (k + 1) 0 2 0 (manyL N N) (N : Int) 12 4 64 256 s 2 1 16 8 2 1 16 8 t = some true := by
  have hl := manyL_len N N
  have h1 : image_Rows.f k ((manyL N N).take 65536) = some ([0, 1, 2], 0) := by
    rw [manyL_take N 65536 (by omega), rows9_ev _ (by rw [manyL_len]; omega) k (by rw [manyL_len]; omega), names_met 65536 (by omega)]
  have h2 : image_Rows.f k (manyL N N) = some ([], 20) := by
    unfold image_Rows.f
    rw [if_pos (by omega)]
  have h3 : image_After.f k 2 1 16 8 t (manyL N N) (-1) = some (0, 0, 0, 0, [], 20) := by
    rw [after9_ev _ _ _ _ _ _ _ k (by omega)]
    unfold afterV
    rw [if_pos ht, if_pos (by omega)]
  have hm1 : (manyL 1 1).all (mayV 2 1 16 8) = false := by decide
  have h4 : image_After.f k 2 1 16 8 t ((manyL N N).take 1) (-1) = some (0, 0, 0, 0, [], 80) := by
    rw [manyL_take N 1 (by omega), after9_ev _ _ _ _ _ _ _ k (by omega)]
    unfold afterV
    rw [if_pos ht, if_neg (by rw [manyL_len]; omega), if_neg (by rw [hm1]; decide)]
  have h5 : image_After.f k 2 1 16 8 t ([] : List S35) 1 = some (0, 0, 0, 0, [], 2) := by
    rw [after9_ev _ _ _ _ _ _ _ k (by omega)]
    unfold afterV
    rw [if_pos ht, if_neg (by decide), if_pos (by rfl), if_pos (by decide)]
  have hb : chkV 2 1 16 8 (t.drop 1) = 90 := by
    unfold chkV
    rw [if_pos (by decide), if_neg (by rw [List.length_drop, show nV 2 1 8 = 48 from rfl]; omega)]
  have h6 : image_After.f k 2 1 16 8 (t.drop 1) (manyL N N) (-1) = some (0, 0, 0, 0, [], 90) := by
    rw [after9_ev _ _ _ _ _ _ _ k (by omega)]
    unfold afterV
    rw [hb, if_neg (by decide)]
  have h7 : image_Diff.f k 2 1 16 8 (t.drop 1) 0 0 0 0 ([] : List (List Int)) = some ([], 90) := by
    unfold image_Diff.f
    rw [check9_ev _ _ _ _ _ k (by omega), Option.bind_some, hb, if_neg (by decide)]
  have hz : chkV 0 0 0 0 ([] : List (List Int)) = 2 := by decide
  have h8 : image_Diff.f k 2 1 16 8 t 0 0 0 0 ([] : List (List Int)) = some ([], 2) := by
    unfold image_Diff.f
    rw [check9_ev _ _ _ _ _ k (by omega), Option.bind_some, ht, if_pos rfl, check9_ev _ _ _ _ _ k (by omega), Option.bind_some, hz, if_neg (by decide)]
  have h9 : image_Diff.f k 2 1 16 8 t 12 4 64 256 s = some ([], 90) := by
    unfold image_Diff.f
    rw [check9_ev _ _ _ _ _ k (by omega), Option.bind_some, ht, if_pos rfl, check9_ev _ _ _ _ _ k (by omega), Option.bind_some, hs, if_pos rfl, if_pos (by decide)]
  have h10 : image_Row.f k 2 1 16 8 t (-1) = some ([], 2) := by
    unfold image_Row.f
    rw [check9_ev _ _ _ _ _ k (by omega), Option.bind_some, ht, if_pos rfl, if_pos (by decide)]
  have h11 : image_Wiped.f k 2 1 16 8 t (-1) = some (0, 0, 0, 0, [], 2) := by
    rw [wiped9_ev _ _ _ _ _ _ k (by omega)]
    unfold wipedV
    rw [if_pos ht, if_pos (by decide)]
  rw [twoslotlaw09_ImageNames.l0, if_neg (by omega), if_pos (by omega), h1, Option.bind_some, h2, Option.bind_some, h3, Option.bind_some, if_pos (by omega), h4, Option.bind_some, h5, Option.bind_some, if_pos (by omega), Option.bind_some, h6, Option.bind_some, h7, Option.bind_some, h8, Option.bind_some, h9, Option.bind_some, h10, Option.bind_some, h11, Option.bind_some]
  dsimp only
  rw [if_pos rfl, if_pos rfl, if_pos rfl, if_pos rfl, if_pos rfl, if_pos rfl, if_pos rfl, if_pos rfl, if_pos rfl, if_pos rfl, if_pos rfl, if_pos rfl, if_pos rfl, if_pos rfl, if_pos hsl, check9_ev _ _ _ _ _ k (by omega), Option.bind_some, hs, if_pos rfl, if_pos (by decide), if_pos (by decide)]
  rfl
theorem rep_chk {a b c d : Int} (hp : okP a b c d = true) (n : Nat) (hn : (n : Int) = nV a b d) : chkV a b c d (List.replicate n []) = 0 := by
  refine chkV_of hp (by rw [List.length_replicate]; exact hn) (fun x hx => ?_)
  rw [List.eq_of_mem_replicate hx]
  exact .inl rfl
theorem blank9_ev {a b c d : Int} (hp : okP a b c d = true) : image_Blank.f a b c d = some (a, b, c, d, List.replicate (nV a b d).toNat [], 0) := by
  have := nV_bd hp
  unfold image_Blank.f layout_Drives.f
  rw [if_pos hp, Option.bind_some]
  dsimp only
  rw [if_pos rfl, wrap_nV hp, if_pos (by unfold nV; omega), if_pos (by unfold nV; omega)]
theorem blank9_no {a b c d : Int} (hp : okP a b c d = false) : image_Blank.f a b c d = some (0, 0, 0, 0, [], 2) := by
  unfold image_Blank.f layout_Drives.f
  rw [if_neg (by rw [hp]; decide), Option.bind_some]
  dsimp only
  rw [if_neg (by decide)]
theorem ImageNames.ev : ∃ k, twoslotlaw09_ImageNames.f k = some true := by
  have hp1 : okP 12 4 64 256 = true := by decide
  have hp2 : okP 12 4 64 257 = false := by decide
  have hp3 : okP 2 1 16 8 = true := by decide
  have n1 : nV 12 4 256 = 8192 := by decide
  have n3 : nV 2 1 8 = 48 := by decide
  obtain ⟨N, hN⟩ : ∃ N : Nat, N = 65537 := ⟨_, rfl⟩
  obtain ⟨m1, hm1⟩ : ∃ m : Nat, m = (nV 12 4 256).toNat := ⟨_, rfl⟩
  obtain ⟨m3, hm3⟩ : ∃ m : Nat, m = (nV 2 1 8).toNat := ⟨_, rfl⟩
  have c1 := rep_chk hp1 m1 (by rw [hm1, n1]; rfl)
  have c3 := rep_chk hp3 m3 (by rw [hm3, n3]; rfl)
  refine ⟨100000 + 1 + N, ?_⟩
  unfold twoslotlaw09_ImageNames.f
  rw [show twoslotlaw09_alive.f = some true from rfl, Option.bind_some, if_pos rfl, blank9_ev hp1, Option.bind_some, blank9_no hp2, Option.bind_some, show twoslotlaw09_sample.f = some (2, 1, 16, 8) from rfl, Option.bind_some]
  dsimp only
  rw [blank9_ev hp3, Option.bind_some]
  dsimp only
  rw [if_pos (by decide), ← hm1, ← hm3, ← hN]
  have e0 : List.replicate N z35 = manyL N 0 := by
    refine List.ext_getElem (by rw [List.length_replicate, manyL_len]) (fun j h1 h2 => ?_)
    rw [List.getElem_replicate]
    simp [manyL, manyG]
  rw [e0]
  refine (names_loop 0 2 0 12 4 64 256 _ 2 1 16 8 2 1 16 8 _ N (by omega) N (100000 + 1) 0 (by omega)).trans ?_
  exact names_end N hN _ _ c1 (by rw [List.length_replicate, hm1, n1]; rfl) c3 (by rw [List.length_replicate, hm3, n3]; rfl) 100000 (Nat.le_refl _)
end Go.Proofs.Ytcnmocbiekfpbaa.P
