import Derived.Test.YtmhfgcmgeglmhaaDoorP21Q
namespace Go.Proofs.YtmhfgcmgeglmhaaDoor.P
open Go.RowKit Go.Proofs.YtmhfgcmgeglmhaaDoorW.PrintWords Go.Proofs.YtmhfgcmgeglmhaaDoorW.PrintLast Go.Proofs.YtmhfgcmgeglmhaaDoorW.PrintMore
attribute [local go_sem] max2_int min2_int max_two min_two max_three min_three max_four min_four
set_option linter.unusedVariables false
set_option linter.unusedSimpArgs false

/-! ### quoted and read -/
theorem bt_nx {s : ByteArray} {nx : Nat} {a : Int} {l : List Int} (h : (bytesOf s).drop nx = a :: l) : bt s (nx : Int) = a := by
  have := bt_get s nx 0 _ h
  simpa using this
theorem drop_len (s : ByteArray) (nx : Nat) : ((bytesOf s).drop nx).length = s.size - nx := by rw [List.length_drop, bytesOf_length]
theorem thing_at (s : ByteArray) (nx : Nat) (h : nx < s.size) : thingF (s.extract nx s.size) = thl ((bytesOf s).drop nx) := by
  rw [thing_ev _ (by rw [ByteArray.size_extract]; omega), bytes_from]
theorem plainP_s (s : ByteArray) (k nx : Nat) (acc : List Int) : plainP s (k + 1) nx acc = if nx < s.size then (if bt s (nx : Int) = 34 then finP s nx acc else if (thingF (s.extract nx s.size)).2 = 0 then (⟨#[]⟩, (nx : Int), 6) else plainP s k (nx + (thingF (s.extract nx s.size)).2.toNat) (acc ++ [(thingF (s.extract nx s.size)).1])) else finP s nx acc := rfl
theorem shownL_head (c : Int) : ∃ a l, shownL c = a :: l ∧ a ≠ 34 := by
  rcases shownL_cases c with ⟨h, e⟩ | ⟨h, e⟩ | ⟨h, e⟩
  · exact ⟨_, _, e, by omega⟩
  · exact ⟨_, _, e, h.2.2.1⟩
  · exact ⟨_, _, e, by omega⟩
theorem plainP_show (s : ByteArray) : ∀ (L : List Int) (f nx : Nat) (acc : List Int), IsB L → (bytesOf s).drop nx = L.flatMap shownL ++ [34] → s.size - nx ≤ f →
    plainP s f nx acc = if 1 ≤ (acc ++ L).length ∧ (acc ++ L).length ≤ 24 then (strOfNums (acc ++ L), 0, 0) else (⟨#[]⟩, 0, 6) := by
  intro L
  induction L with
  | nil =>
    intro f nx acc _ h hf
    have hl := drop_len s nx
    rw [h] at hl
    simp at hl
    obtain ⟨f, rfl⟩ : ∃ g, f = g + 1 := ⟨f - 1, by omega⟩
    rw [plainP_s, if_pos (by omega), if_pos (bt_nx h)]
    unfold finP
    rw [if_neg (by omega), if_neg (by omega), List.append_nil]
  | cons c L ih =>
    intro f nx acc hI h hf
    have hl := drop_len s nx
    obtain ⟨a, l, hs, ha⟩ := shownL_head c
    have h2 : (bytesOf s).drop nx = shownL c ++ (L.flatMap shownL ++ [34]) := by rw [h, List.flatMap_cons, List.append_assoc]
    have h3 : (bytesOf s).drop nx = a :: (l ++ (L.flatMap shownL ++ [34])) := by rw [h2, hs]; rfl
    have hl2 := hl
    rw [h3] at hl2
    simp at hl2
    have hc := (isB_cons.mp hI).1
    obtain ⟨f, rfl⟩ : ∃ g, f = g + 1 := ⟨f - 1, by omega⟩
    have hlen := shownL_len1 c
    rw [plainP_s, if_pos (by omega), bt_nx h3, if_neg ha, thing_at s nx (by omega), h2, thl_shown hc.1 hc.2]
    show (if ((shownL c).length : Int) = 0 then _ else plainP s f (nx + ((shownL c).length : Int).toNat) (acc ++ [c])) = _
    rw [if_neg (by omega), Int.toNat_natCast]
    rw [ih f (nx + (shownL c).length) (acc ++ [c]) (isB_cons.mp hI).2 (by rw [← List.drop_drop, h2, List.drop_left]) (by omega)]
    rw [List.append_assoc]
    rfl
theorem plainP_facts (s : ByteArray) : ∀ (f nx : Nat) (acc : List Int), nx ≤ s.size → s.size - nx ≤ f → ((plainP s f nx acc).1 = ⟨#[]⟩ ∧ (plainP s f nx acc).2.2 = 6 ∧ 0 ≤ (plainP s f nx acc).2.1 ∧ (plainP s f nx acc).2.1 ≤ s.size) ∨
    ((plainP s f nx acc).2 = (0, 0) ∧ ∃ L, IsB L ∧ (bytesOf s).drop nx = L.flatMap shownL ++ [34] ∧ (plainP s f nx acc).1 = strOfNums (acc ++ L) ∧ 1 ≤ (acc ++ L).length ∧ (acc ++ L).length ≤ 24) := by
  have fin : ∀ (nx : Nat) (acc : List Int), nx ≤ s.size → (nx < s.size → bt s (nx : Int) = 34) → ((finP s nx acc).1 = ⟨#[]⟩ ∧ (finP s nx acc).2.2 = 6 ∧ 0 ≤ (finP s nx acc).2.1 ∧ (finP s nx acc).2.1 ≤ s.size) ∨
    ((finP s nx acc).2 = (0, 0) ∧ ∃ L, IsB L ∧ (bytesOf s).drop nx = L.flatMap shownL ++ [34] ∧ (finP s nx acc).1 = strOfNums (acc ++ L) ∧ 1 ≤ (acc ++ L).length ∧ (acc ++ L).length ≤ 24) := by
    intro nx acc hn hb
    unfold finP
    by_cases h1 : nx = s.size
    · rw [if_pos h1]
      exact .inl ⟨rfl, rfl, by simp, by simp; omega⟩
    · rw [if_neg h1]
      by_cases h2 : nx + 1 < s.size
      · rw [if_pos h2]
        exact .inl ⟨rfl, rfl, by simp; omega, by simp; omega⟩
      · rw [if_neg h2]
        by_cases h3 : 1 ≤ acc.length ∧ acc.length ≤ 24
        · rw [if_pos h3]
          refine .inr ⟨rfl, [], isB_nil, ?_, by rw [List.append_nil], by rw [List.append_nil]; exact h3⟩
          have hl := drop_len s nx
          have hb := hb (by omega)
          rcases hd : (bytesOf s).drop nx with _ | ⟨a, _ | ⟨b, l⟩⟩
          · rw [hd] at hl; simp at hl; omega
          · rw [bt_nx hd] at hb
            rw [hb]
            rfl
          · rw [hd] at hl; simp at hl; omega
        · rw [if_neg h3]
          exact .inl ⟨rfl, rfl, by simp, by simp⟩
  intro f
  induction f with
  | zero =>
    intro nx acc hn hf
    exact fin nx acc hn (fun h => by omega)
  | succ f ih =>
    intro nx acc hn hf
    rw [plainP_s]
    by_cases h1 : nx < s.size
    · rw [if_pos h1]
      by_cases h2 : bt s (nx : Int) = 34
      · rw [if_pos h2]
        exact fin nx acc hn (fun _ => h2)
      · rw [if_neg h2, thing_at s nx h1]
        by_cases h3 : (thl ((bytesOf s).drop nx)).2 = 0
        · rw [if_pos h3]
          exact .inl ⟨rfl, rfl, by simp, by simp; omega⟩
        · rw [if_neg h3]
          obtain ⟨g1, g2, g3, g4⟩ := thl_back (isB_drop nx (isB_bytesOf s)) h3
          generalize (thl ((bytesOf s).drop nx)).1 = c at *
          rw [g3, Int.toNat_natCast]
          have hl := drop_len s nx
          have hlen := shownL_len1 c
          have hle : nx + (shownL c).length ≤ s.size := by
            have := congrArg List.length g4
            rw [List.length_append, hl] at this
            omega
          rcases ih (nx + (shownL c).length) (acc ++ [c]) hle (by omega) with h | ⟨e1, L, e2, e3, e4, e5, e6⟩
          · exact .inl h
          · refine .inr ⟨e1, c :: L, isB_cons.mpr ⟨⟨g1, g2⟩, e2⟩, ?_, by rw [e4, List.append_assoc]; rfl, by simpa [Nat.add_comm, Nat.add_left_comm] using e5, by simpa [Nat.add_comm, Nat.add_left_comm] using e6⟩
            rw [g4, List.drop_drop, e3, List.flatMap_cons, List.append_assoc]
    · rw [if_neg h1]
      exact fin nx acc hn (fun h => absurd h h1)
theorem prefix_iff (s : ByteArray) : Lib.hasPrefix s.data.toList [34] = true ↔ ∃ l, bytesOf s = 34 :: l := by
  unfold Lib.hasPrefix bytesOf
  rcases s.data.toList with _ | ⟨a, l⟩
  · simp
  · simp
    constructor
    · intro h
      rw [← h]
      rfl
    · intro h1
      refine UInt8.toNat_inj.mp ?_
      show (34 : UInt8).toNat = a.toNat
      have : (34 : UInt8).toNat = 34 := rfl
      omega
theorem nums_bytes {L : List Int} (h : IsB L) : bytesOf (strOfNums L) = L := bytes_of_nums (fun x hx => by have := h x hx; omega)
theorem isB_quotedL (s : ByteArray) : IsB (quotedL s) := by
  unfold quotedL
  refine isB_append.mpr ⟨isB_append.mpr ⟨fun x hx => by simp at hx; omega, fun x hx => ?_⟩, fun x hx => by simp at hx; omega⟩
  obtain ⟨c, hc, hx⟩ := List.mem_flatMap.mp hx
  have := isB_bytesOf s c hc
  have := shownL_print this.1 this.2 x hx
  omega
/-- What is quoted is read as it was. -/
theorem plain_quote (s : ByteArray) (h1 : 1 ≤ s.size) (h2 : s.size ≤ 24) : name_Plain.f (strOfNums (quotedL s)) = some (s, 0, 0) := by
  have hb := nums_bytes (isB_quotedL s)
  have hsz : (strOfNums (quotedL s)).size = (quotedL s).length := by rw [← bytesOf_length, hb]
  have hq : bytesOf (strOfNums (quotedL s)) = 34 :: ((bytesOf s).flatMap shownL ++ [34]) := by rw [hb]; rfl
  have hle : ∀ l : List Int, (l.flatMap shownL).length ≤ 4 * l.length := by
    intro l
    induction l with
    | nil => simp
    | cons c l ih =>
      have := shownL_len1 c
      rw [List.flatMap_cons, List.length_append, List.length_cons]
      omega
  have hle2 := hle (bytesOf s)
  rw [bytesOf_length] at hle2
  have hqs : (quotedL s).length ≤ 200 := by
    unfold quotedL
    rw [List.length_append, List.length_append, List.length_singleton]
    omega
  unfold name_Plain.f
  rw [if_pos (by omega), if_pos ((prefix_iff _).mpr ⟨_, hq⟩)]
  rw [plainP_show _ (bytesOf s) _ 1 [] (isB_bytesOf s) (by rw [hq]; rfl) (by omega)]
  rw [List.nil_append, bytesOf_length, if_pos ⟨h1, h2⟩, str_bytesOf]
/-- What Plain tells. -/
theorem plain_facts (t : ByteArray) (p : ByteArray) (a e : Int) (h : name_Plain.f t = some (p, a, e)) : (p = ⟨#[]⟩ ∧ e = 6 ∧ 0 ≤ a ∧ a ≤ t.size) ∨ (a = 0 ∧ e = 0 ∧ 1 ≤ p.size ∧ p.size ≤ 24 ∧ strOfNums (quotedL p) = t) := by
  unfold name_Plain.f at h
  by_cases hs : t.size ≤ 140737488351232
  · rw [if_pos hs] at h
    injection h with h
    by_cases hp : Lib.hasPrefix t.data.toList [34] = true
    · rw [if_pos hp] at h
      obtain ⟨l, hl⟩ := (prefix_iff t).mp hp
      have hsz := bytesOf_length t
      rw [hl] at hsz
      simp at hsz
      have hf := plainP_facts t t.size 1 [] (by omega) (by omega)
      rw [h] at hf
      rcases hf with hf | ⟨e1, L, e2, e3, e4, e5, e6⟩
      · exact .inl hf
      · injection e1 with e1 e7
        simp only [List.nil_append] at e4 e5 e6
        rw [e4]
        refine .inr ⟨e1, e7, by rw [← bytesOf_length, nums_bytes e2]; exact e5, by rw [← bytesOf_length, nums_bytes e2]; exact e6, ?_⟩
        unfold quotedL
        rw [nums_bytes e2, List.append_assoc, ← e3]
        rw [show [34] ++ (bytesOf t).drop 1 = bytesOf t by rw [hl]; rfl, str_bytesOf]
    · rw [if_neg hp] at h
      injection h with h1 h2
      injection h2 with h2 h3
      exact .inl ⟨h1.symm, h3.symm, by omega, by omega⟩
  · rw [if_neg hs] at h
    simp at h
theorem plain_some (t : ByteArray) (h : t.size ≤ 140737488351232) : ∃ p a e, name_Plain.f t = some (p, a, e) := by
  unfold name_Plain.f
  rw [if_pos h]
  exact ⟨_, _, _, rfl⟩
end Go.Proofs.YtmhfgcmgeglmhaaDoor.P
