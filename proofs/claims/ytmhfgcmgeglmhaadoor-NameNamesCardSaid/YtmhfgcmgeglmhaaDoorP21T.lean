import Derived.Test.YtmhfgcmgeglmhaaDoorP21R
namespace Go.Proofs.YtmhfgcmgeglmhaaDoor.P
open Go.RowKit Go.Proofs.YtmhfgcmgeglmhaaDoorW.PrintWords Go.Proofs.YtmhfgcmgeglmhaaDoorW.PrintLast Go.Proofs.YtmhfgcmgeglmhaaDoorW.PrintMore
attribute [local go_sem] max2_int min2_int max_two min_two max_three min_three max_four min_four
set_option linter.unusedVariables false
set_option linter.unusedSimpArgs false

/-! ### NameTexts: the document's answers -/
def sumL (l : List Int) : Int := l.foldr (fun a b => a + b) 0
theorem sumL_range : ∀ {l : List Int}, IsB l → 0 ≤ sumL l ∧ sumL l ≤ 255 * l.length
  | [], _ => by simp [sumL]
  | a :: l, h => by
    have h1 := (isB_cons.mp h).1
    have h2 := sumL_range (isB_cons.mp h).2
    simp only [sumL, List.foldr_cons, List.length_cons] at h2 ⊢
    omega
def bucketB (s : ByteArray) : Int × Int := if 1 ≤ s.size ∧ s.size ≤ 24 then (sumL (bytesOf s) % 4, 0) else (0, 6)
theorem check_ev (s : ByteArray) : name_Check.f s = some (if 1 ≤ s.size ∧ s.size ≤ 24 then 0 else 6) := by
  unfold name_Check.f
  by_cases h1 : (s.size : Int) < 1
  · rw [if_pos h1, if_neg (by omega)]
  · rw [if_neg h1]
    by_cases h2 : (s.size : Int) > 24
    · rw [if_pos h2, if_neg (by omega)]
    · rw [if_neg h2, if_pos (by omega)]
theorem refCheck_ev (s : ByteArray) : twoslotref21_Check.f s = some (if 1 ≤ s.size ∧ s.size ≤ 24 then 0 else 6) := by
  unfold twoslotref21_Check.f
  rw [may_ev, Option.bind_some]
  unfold mayB
  by_cases h : 1 ≤ s.size ∧ s.size ≤ 24
  · rw [if_pos (decide_eq_true h), if_pos h]
  · rw [if_neg (by simpa using h), if_neg h]
theorem next64 (i : Nat) (h : i ≤ 100000) : wrap64 ((i : Int) + 1) = ((i + 1 : Nat) : Int) := by unfold wrap64; omega
theorem bk_step (i : Nat) (x b : Int) (h : i ≤ 100000) (h0 : 0 ≤ x) (h1 : x ≤ 255 * i) (h2 : 0 ≤ b) (h3 : b < 256) : wrap64 (x + wrap64 b) = x + b := by
  have e : wrap64 b = b := by unfold wrap64; omega
  rw [e]
  unfold wrap64
  omega
theorem bucket_loop (B : List Int) (hI : IsB B) (hB : B.length ≤ 24) : ∀ (n i : Nat) (x : Int) (K : Nat), i ≤ B.length → B.length - i = n → n + 1 ≤ K → 0 ≤ x → x ≤ 255 * i → name_Bucket.l0 K x B (B.length : Int) (i : Int) = some ((x + sumL (B.drop i)) % 4, 0) := by
  intro n
  induction n with
  | zero =>
    intro i x K hi hn hK h0 h1
    obtain ⟨K, rfl⟩ : ∃ m, K = m + 1 := ⟨K - 1, by omega⟩
    rw [name_Bucket.l0, if_neg (by omega), List.drop_of_length_le (by omega)]
    rw [show x + sumL [] = x by simp [sumL], Int.tmod_eq_emod_of_nonneg h0]
  | succ n ih =>
    intro i x K hi hn hK h0 h1
    obtain ⟨K, rfl⟩ : ∃ m, K = m + 1 := ⟨K - 1, by omega⟩
    have hlt : i < B.length := by omega
    have hd := List.drop_eq_getElem_cons hlt
    have hr : rd B (i : Int) = B[i] := by simp [rd, hlt]
    have hb := hI B[i] (List.getElem_mem hlt)
    obtain ⟨b, hbe⟩ : ∃ b, B[i] = b := ⟨_, rfl⟩
    rw [hbe] at hd hr hb
    have h2 := ih (i + 1) (x + b) K (by omega) (by omega) (by omega) (by omega) (by omega)
    rw [name_Bucket.l0, if_pos (by omega), if_pos (by omega), if_pos (by omega), hr, bk_step i x b (by omega) h0 h1 hb.1 hb.2, next64 i (by omega), h2, hd]
    clear h2 ih
    congr 3
    simp only [sumL, List.foldr_cons]
    omega
theorem bucket_ev (s : ByteArray) (k : Nat) (hk : 30 ≤ k) : name_Bucket.f k s = some (bucketB s) := by
  unfold name_Bucket.f bucketB
  rw [check_ev, Option.bind_some]
  by_cases h : 1 ≤ s.size ∧ s.size ≤ 24
  · rw [if_pos h, if_pos rfl, if_pos h]
    unfold conv_bytes.f
    rw [if_pos (by omega), Option.bind_some]
    have := bucket_loop (bytesOf s) (isB_bytesOf s) (by rw [bytesOf_length]; omega) (bytesOf s).length 0 0 k (by omega) rfl (by rw [bytesOf_length]; omega) (by omega) (by omega)
    rw [List.drop_zero, Int.zero_add] at this
    exact this
  · rw [if_neg h, if_neg (by omega), if_neg h]
theorem refBucket_loop (s : ByteArray) (hs : s.size ≤ 24) : ∀ (n i : Nat) (x : Int) (K : Nat), i ≤ s.size → s.size - i = n → n + 1 ≤ K → 0 ≤ x → x ≤ 255 * i → twoslotref21_Bucket.l0 K s x (i : Int) = some ((x + sumL ((bytesOf s).drop i)) % 4, 0) := by
  intro n
  induction n with
  | zero =>
    intro i x K hi hn hK h0 h1
    obtain ⟨K, rfl⟩ : ∃ m, K = m + 1 := ⟨K - 1, by omega⟩
    rw [twoslotref21_Bucket.l0, if_neg (by omega), List.drop_of_length_le (by rw [bytesOf_length]; omega)]
    rw [show x + sumL [] = x by simp [sumL], Int.tmod_eq_emod_of_nonneg h0]
  | succ n ih =>
    intro i x K hi hn hK h0 h1
    obtain ⟨K, rfl⟩ : ∃ m, K = m + 1 := ⟨K - 1, by omega⟩
    have hlt : i < (bytesOf s).length := by rw [bytesOf_length]; omega
    have hd := List.drop_eq_getElem_cons hlt
    have hr : bt s (i : Int) = (bytesOf s)[i] := bt_nx hd
    have hb := isB_bytesOf s _ (List.getElem_mem hlt)
    obtain ⟨b, hbe⟩ : ∃ b, (bytesOf s)[i] = b := ⟨_, rfl⟩
    rw [hbe] at hd hr hb
    have h2 := ih (i + 1) (x + b) K (by omega) (by omega) (by omega) (by omega) (by omega)
    rw [twoslotref21_Bucket.l0, if_pos (by omega), if_pos (by omega), hr, bk_step i x b (by omega) h0 h1 hb.1 hb.2, next64 i (by omega), h2, hd]
    clear h2 ih
    congr 3
    simp only [sumL, List.foldr_cons]
    omega
theorem refBucket_ev (s : ByteArray) (k : Nat) (hk : 30 ≤ k) : twoslotref21_Bucket.f k s = some (bucketB s) := by
  unfold twoslotref21_Bucket.f bucketB
  rw [may_ev, Option.bind_some]
  unfold mayB
  by_cases h : 1 ≤ s.size ∧ s.size ≤ 24
  · rw [if_pos (decide_eq_true h), if_pos h]
    have := refBucket_loop s (by omega) s.size 0 0 k (by omega) rfl (by omega) (by omega) (by omega)
    rw [List.drop_zero, Int.zero_add] at this
    exact this
  · rw [if_neg (by simpa using h), if_neg h]
theorem sixteen_ev (n : Int) (h0 : 0 ≤ n) (h1 : n < 16) : twoslotref21_sixteen.f n = some (hexd n) := by
  unfold twoslotref21_sixteen.f hexd
  by_cases h : n < 10
  · rw [if_pos h, if_pos h]
    congr 1
    omega
  · rw [if_neg h, if_neg h]
    congr 1
    omega
theorem shown_j0 (k : Nat) (c : Int) (b : Bool) : twoslotref21_shown.j0 (k + 1) c b = if b = true then some [92, c] else (if c ≥ 33 then twoslotref21_shown.j1 k c (decide (c ≤ 126)) else twoslotref21_shown.j1 k c false) := by rw [twoslotref21_shown.j0]
theorem shown_j1 (k : Nat) (c : Int) (b : Bool) : twoslotref21_shown.j1 (k + 1) c b = if b = true then some [c] else ((twoslotref21_sixteen.f ((Int.tdiv c 16) % 256)).bind fun t162 => ((twoslotref21_sixteen.f (Int.tmod c 16)).bind fun t163 => (some ([92, 120, t162, t163] : List Int)))) := by rw [twoslotref21_shown.j1]
theorem refShown_ev (k : Nat) (c : Int) (h : 0 ≤ c ∧ c < 256) : twoslotref21_shown.f (k + 2) c = some (shownL c) := by
  unfold twoslotref21_shown.f
  rcases shownL_cases c with ⟨h2, e⟩ | ⟨h2, e⟩ | ⟨h2, e⟩ <;> rw [e]
  · rcases h2 with h2 | h2
    · rw [if_pos h2, shown_j0, if_pos rfl]
    · rw [if_neg (by omega), shown_j0, show (c == 92) = true by simp; exact h2, if_pos rfl]
  · rw [if_neg (by omega), shown_j0, show (c == 92) = false by simp; omega, if_neg (by simp), if_pos (by omega), shown_j1, decide_eq_true (by omega), if_pos rfl]
  · have hj : (if c ≥ 33 then twoslotref21_shown.j1 (k + 1) c (decide (c ≤ 126)) else twoslotref21_shown.j1 (k + 1) c false) = twoslotref21_shown.j1 (k + 1) c false := by
      by_cases h3 : c ≥ 33
      · rw [if_pos h3, decide_eq_false (by omega)]
      · rw [if_neg h3]
    rw [if_neg (by omega), shown_j0, show (c == 92) = false by simp; omega, if_neg (by simp), hj, shown_j1, if_neg (by simp)]
    rw [Int.tdiv_eq_ediv_of_nonneg h.1, Int.tmod_eq_emod_of_nonneg h.1, show c / 16 % 256 = c / 16 by omega]
    rw [sixteen_ev _ (by omega) (by omega), Option.bind_some, sixteen_ev _ (by omega) (by omega), Option.bind_some]
theorem quoted_loop (s : ByteArray) (hs : s.size ≤ 24) : ∀ (n i : Nat) (acc : List Int) (K : Nat), i ≤ s.size → s.size - i = n → n + 3 ≤ K → acc.length ≤ 1 + 4 * i → twoslotref21_quoted.l0 K s acc (i : Int) = some (strOfNums (acc ++ ((bytesOf s).drop i).flatMap shownL ++ [34])) := by
  intro n
  induction n with
  | zero =>
    intro i acc K hi hn hK h1
    obtain ⟨K, rfl⟩ : ∃ m, K = m + 1 := ⟨K - 1, by omega⟩
    rw [twoslotref21_quoted.l0, if_neg (by omega), if_pos (by omega), List.drop_of_length_le (by rw [bytesOf_length]; omega)]
    simp
  | succ n ih =>
    intro i acc K hi hn hK h1
    obtain ⟨K, rfl⟩ : ∃ m, K = m + 2 + 1 := ⟨K - 3, by omega⟩
    have hlt : i < (bytesOf s).length := by rw [bytesOf_length]; omega
    have hd := List.drop_eq_getElem_cons hlt
    have hr : bt s (i : Int) = (bytesOf s)[i] := bt_nx hd
    have hb := isB_bytesOf s _ (List.getElem_mem hlt)
    have hlen := shownL_len1 (bytesOf s)[i]
    rw [twoslotref21_quoted.l0, if_pos (by omega), if_pos (by omega), hr, refShown_ev K _ hb, Option.bind_some, if_pos (by omega)]
    rw [show wrap64 ((i : Int) + 1) = ((i + 1 : Nat) : Int) by unfold wrap64; omega]
    rw [ih (i + 1) _ (K + 2) (by omega) (by omega) (by omega) (by rw [List.length_append]; omega), hd, List.flatMap_cons]
    simp only [List.append_assoc]
theorem refQuote_ev (s : ByteArray) (k : Nat) (hk : 40 ≤ k) : twoslotref21_Quote.f k s = name_Quote.f s := by
  unfold twoslotref21_Quote.f name_Quote.f
  rw [may_ev, Option.bind_some]
  unfold mayB
  by_cases h : 1 ≤ s.size ∧ s.size ≤ 24
  · rw [if_pos (decide_eq_true h), if_pos h]
    unfold twoslotref21_quoted.f
    have := quoted_loop s (by omega) s.size 0 [34] k (by omega) rfl (by omega) (by simp)
    rw [List.drop_zero] at this
    rw [show (0 : Int) = ((0 : Nat) : Int) from rfl, this, Option.bind_some]
    rfl
  · rw [if_neg (by simpa using h), if_neg h]
/-- What Plain makes of what Begin tells. -/
def plainOf (s : ByteArray) (b : ByteArray × Int × Bool) : ByteArray × Int × Int := if b.2.2 = true then (if b.2.1 < (s.size : Int) then (⟨#[]⟩, b.2.1, 6) else if 1 ≤ b.1.size ∧ b.1.size ≤ 24 then (b.1, 0, 0) else (⟨#[]⟩, 0, 6)) else (⟨#[]⟩, b.2.1, 6)
theorem begin_l0 (k : Nat) (s : ByteArray) (x5 : List Int) (x6 : Int) : twoslotref21_Begin.l0 (k + 1) s x5 x6 = if x6 < (s.size : Int) then (if 0 ≤ x6 then (twoslotref21_Begin.j2 k s x5 x6 ((bt s x6) != 34)) else none) else (twoslotref21_Begin.j2 k s x5 x6 false) := by rw [twoslotref21_Begin.l0]
theorem begin_j2 (k : Nat) (s : ByteArray) (x5 : List Int) (x6 : Int) (b : Bool) : twoslotref21_Begin.j2 (k + 1) s x5 x6 b = if b = true then ((twoslotref21_thing.f k s x6).bind fun bt235 => (if bt235.2 = 0 then (some ((⟨#[]⟩ : ByteArray), x6, false)) else (if x5.length < 140737488355328 then (twoslotref21_Begin.l0 k s (x5 ++ [bt235.1]) (wrap64 (x6 + bt235.2))) else none))) else (if x6 = (s.size : Int) then (some ((⟨#[]⟩ : ByteArray), x6, false)) else (some (strOfNums x5, wrap64 (x6 + 1), true))) := by rw [twoslotref21_Begin.j2]
theorem size_nums (acc : List Int) : (strOfNums acc).size = acc.length := by simp [strOfNums, ByteArray.size]
theorem begin_loop (s : ByteArray) (hs : s.size ≤ 5000) : ∀ (f nx : Nat) (acc : List Int) (K : Nat), nx ≤ s.size → s.size - nx ≤ f → acc.length ≤ nx → 2 * f + 8 ≤ K → ∃ r, twoslotref21_Begin.l0 K s acc (nx : Int) = some r ∧ plainOf s r = plainP s f nx acc := by
  have fin : ∀ (nx : Nat) (acc : List Int) (K : Nat), nx ≤ s.size → (nx < s.size → bt s (nx : Int) = 34) → ∃ r, twoslotref21_Begin.l0 (K + 2) s acc (nx : Int) = some r ∧ plainOf s r = finP s nx acc := by
    intro nx acc K hn hb
    have hj : twoslotref21_Begin.l0 (K + 2) s acc (nx : Int) = twoslotref21_Begin.j2 (K + 1) s acc (nx : Int) false := by
      rw [begin_l0]
      by_cases h : nx < s.size
      · rw [if_pos (by omega), if_pos (by omega), hb h]
        rfl
      · rw [if_neg (by omega)]
    rw [hj, begin_j2, if_neg (by simp)]
    by_cases h : nx = s.size
    · rw [if_pos (by omega)]
      refine ⟨_, rfl, ?_⟩
      unfold plainOf finP
      rw [if_neg (by simp), if_pos h]
    · rw [if_neg (by omega)]
      refine ⟨_, rfl, ?_⟩
      unfold plainOf finP
      have e : wrap64 ((nx : Int) + 1) = ((nx + 1 : Nat) : Int) := by unfold wrap64; omega
      rw [if_pos rfl, if_neg h]
      simp only [e, size_nums]
      by_cases h2 : nx + 1 < s.size
      · rw [if_pos (by omega), if_pos h2]
      · rw [if_neg (by omega), if_neg h2]
  intro f
  induction f with
  | zero =>
    intro nx acc K hn hf ha hK
    obtain ⟨K, rfl⟩ : ∃ m, K = m + 2 := ⟨K - 2, by omega⟩
    exact fin nx acc K hn (fun h => by omega)
  | succ f ih =>
    intro nx acc K hn hf ha hK
    obtain ⟨K, rfl⟩ : ∃ m, K = m + 4 + 2 := ⟨K - 6, by omega⟩
    rw [plainP_s]
    by_cases h1 : nx < s.size
    · rw [if_pos h1]
      by_cases h2 : bt s (nx : Int) = 34
      · rw [if_pos h2]
        exact fin nx acc _ hn (fun _ => h2)
      · rw [if_neg h2, thing_at s nx h1, begin_l0, if_pos (by omega), if_pos (by omega), show (bt s (nx : Int) != 34) = true by simpa using h2, begin_j2, if_pos rfl, refThing_ev K s nx h1 (by omega), Option.bind_some]
        by_cases h3 : (thl ((bytesOf s).drop nx)).2 = 0
        · rw [if_pos h3, if_pos h3]
          refine ⟨_, rfl, ?_⟩
          unfold plainOf
          rw [if_neg (by simp)]
        · rw [if_neg h3, if_neg h3, if_pos (by omega)]
          obtain ⟨g1, g2, g3, g4⟩ := thl_back (isB_drop nx (isB_bytesOf s)) h3
          have hl := drop_len s nx
          generalize (thl ((bytesOf s).drop nx)).1 = c at *
          have hlen := shownL_len1 c
          have hle : nx + (shownL c).length ≤ s.size := by
            have := congrArg List.length g4
            rw [List.length_append, hl] at this
            omega
          rw [g3, Int.toNat_natCast, show wrap64 ((nx : Int) + ((shownL c).length : Int)) = ((nx + (shownL c).length : Nat) : Int) by unfold wrap64; omega]
          exact ih (nx + (shownL c).length) (acc ++ [c]) (K + 4) hle (by omega) (by rw [List.length_append, List.length_singleton]; omega) (by omega)
    · rw [if_neg h1]
      exact fin nx acc _ hn (fun h => absurd h h1)
theorem begin_j0 (k : Nat) (s : ByteArray) (b : Bool) : twoslotref21_Begin.j0 (k + 1) s b = if b = true then (some ((⟨#[]⟩ : ByteArray), 0, false)) else (twoslotref21_Begin.l0 k s ([] : List Int) 1) := by rw [twoslotref21_Begin.j0]
theorem refPlain_ev (s : ByteArray) (hs : s.size ≤ 5000) (k : Nat) (hk : 10020 ≤ k) : twoslotref21_Plain.f k s = name_Plain.f s := by
  obtain ⟨k, rfl⟩ : ∃ m, k = m + 1 := ⟨k - 1, by omega⟩
  have key : ∃ r, twoslotref21_Begin.f (k + 1) s = some r ∧ name_Plain.f s = some (plainOf s r) := by
    unfold twoslotref21_Begin.f name_Plain.f
    rw [if_pos (show s.size ≤ 140737488351232 by omega)]
    have hp := prefix_iff s
    have hl := bytesOf_length s
    have hb := rd_bytesOf s 0
    rcases hB : bytesOf s with _ | ⟨a, B⟩
    · have h0 : s.toList = [] := by
        rw [ByteArray.toList_eq]
        unfold bytesOf at hB
        simpa using hB
      rw [if_pos h0, begin_j0, if_pos rfl, if_neg (by rw [hp, hB]; simp)]
      exact ⟨_, rfl, rfl⟩
    · rw [hB] at hl hb
      simp at hl
      have h0 : ¬ (s.toList = []) := by
        rw [ByteArray.toList_eq]
        intro e
        unfold bytesOf at hB
        rw [e] at hB
        simp at hB
      have hb2 : bt s 0 = a := hb.symm
      rw [if_neg h0, if_pos (by omega), hb2, begin_j0]
      by_cases h34 : a = 34
      · rw [show (a != 34) = false by simpa using h34, if_neg (by simp), if_pos (hp.mpr ⟨B, by rw [hB, h34]⟩)]
        obtain ⟨r, h1, h2⟩ := begin_loop s hs s.size 1 [] k (by omega) (by omega) (by simp) (by omega)
        exact ⟨r, h1, by rw [h2]⟩
      · rw [show (a != 34) = true by simpa using h34, if_pos rfl, if_neg (by rw [hp, hB]; simp [h34])]
        exact ⟨_, rfl, rfl⟩
  obtain ⟨r, h1, h2⟩ := key
  unfold twoslotref21_Plain.f
  rw [h1, h2, Option.bind_some]
  unfold plainOf
  by_cases g1 : r.2.2 = true
  · rw [if_pos g1, if_pos g1]
    by_cases g2 : r.2.1 < (s.size : Int)
    · rw [if_pos g2, if_pos g2]
    · rw [if_neg g2, if_neg g2, may_ev, Option.bind_some]
      unfold mayB
      by_cases g3 : 1 ≤ r.1.size ∧ r.1.size ≤ 24
      · rw [if_pos (decide_eq_true g3), if_pos g3]
      · rw [if_neg (by simpa using g3), if_neg g3]
  · rw [if_neg g1, if_neg g1]
theorem nameLess_ev (a b : ByteArray) : name_Less.f a b = some (lessB a b) := by
  unfold name_Less.f lessB bl toB
  rw [ByteArray.toList_eq, ByteArray.toList_eq]
theorem refLess_ev (a b : ByteArray) (ha : a.size ≤ 5000) (hb : b.size ≤ 5000) (k : Nat) (hk : 10020 ≤ k) : twoslotref21_Less.f k a b = some (lessB a b) := less_ev a b (by omega) (by omega) k (by omega)
theorem nameTexts_pure : twoslotlaw21_NameTexts.Pure := by
  intro s t _ _
  refine ⟨20000, ?_⟩
  unfold twoslotlaw21_NameTexts.f
  rw [alive_ev 20000 (by omega), Option.bind_some, if_pos rfl]
  have j0t : twoslotlaw21_NameTexts.j0 20000 s t true = some true := by
    rw [show 20000 = 19999 + 1 from rfl, twoslotlaw21_NameTexts.j0, if_pos rfl]
  by_cases h : (s.size : Int) > 5000
  · rw [if_pos h]
    exact j0t
  · rw [if_neg h]
    by_cases h2 : (t.size : Int) > 5000
    · rw [decide_eq_true h2]
      exact j0t
    · rw [decide_eq_false h2, show 20000 = 19999 + 1 from rfl, twoslotlaw21_NameTexts.j0, if_neg (by simp)]
      obtain ⟨p, a, e, hp⟩ := plain_some t (by omega)
      have hq : name_Quote.f s = some (if 1 ≤ s.size ∧ s.size ≤ 24 then (strOfNums (quotedL s), 0) else (⟨#[]⟩, 6)) := rfl
      rw [bucket_ev s _ (by omega), Option.bind_some, refQuote_ev s _ (by omega), hq, Option.bind_some, refPlain_ev t (by omega) _ (by omega), hp, Option.bind_some, refBucket_ev s _ (by omega), Option.bind_some, Option.bind_some, Option.bind_some, check_ev, Option.bind_some, refCheck_ev, Option.bind_some, if_pos rfl, nameLess_ev, Option.bind_some, refLess_ev s t (by omega) (by omega) _ (by omega), Option.bind_some]
      rw [if_pos (by simp), if_pos rfl, if_pos rfl, if_pos rfl, if_pos rfl, if_pos rfl, if_pos rfl]
      simp
end Go.Proofs.YtmhfgcmgeglmhaaDoor.P
