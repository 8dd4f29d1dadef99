import Derived.Test.YtmhfgcmgeglmhaaDoorPx9
import Derived.Test.YtmhfgcmgeglmhaaDoorPx10
import Derived.Test.YtmhfgcmgeglmhaaDoorPx11
import Derived.Test.YtmhfgcmgeglmhaaDoorP21I
namespace Go.Proofs.YtmhfgcmgeglmhaaDoor.P
open Go.RowKit Go.Proofs.YtmhfgcmgeglmhaaDoorW.PrintWords Go.Proofs.YtmhfgcmgeglmhaaDoorW.PrintLast Go.Proofs.YtmhfgcmgeglmhaaDoorW.PrintMore
attribute [local go_sem] max2_int min2_int max_two min_two max_three min_three max_four min_four
set_option linter.unusedVariables false
set_option linter.unusedSimpArgs false

/-! Bytes as numbers. -/
def IsB (l : List Int) : Prop := ∀ x ∈ l, 0 ≤ x ∧ x < 256
theorem isB_nil : IsB [] := fun _ h => by cases h
theorem isB_cons {x : Int} {l : List Int} : IsB (x :: l) ↔ (0 ≤ x ∧ x < 256) ∧ IsB l := by unfold IsB; simp
theorem isB_append {l m : List Int} : IsB (l ++ m) ↔ IsB l ∧ IsB m := by
  unfold IsB
  constructor
  · intro h; exact ⟨fun x hx => h x (List.mem_append_left _ hx), fun x hx => h x (List.mem_append_right _ hx)⟩
  · rintro ⟨h1, h2⟩ x hx
    rcases List.mem_append.mp hx with h | h
    · exact h1 x h
    · exact h2 x h
theorem isB_take {l : List Int} (n : Nat) (h : IsB l) : IsB (l.take n) := fun x hx => h x (List.mem_of_mem_take hx)
theorem isB_drop {l : List Int} (n : Nat) (h : IsB l) : IsB (l.drop n) := fun x hx => h x (List.mem_of_mem_drop hx)
theorem isB_zeros (n : Nat) : IsB (List.replicate n 0) := fun x hx => by
  have := List.eq_of_mem_replicate hx
  omega
theorem isB_wf {l : List Int} (h : ∀ x ∈ l, (Lit.int .u8 x).wf = true) : IsB l := fun x hx => by
  have := h x hx
  simp [Lit.wf, IntKind.min, IntKind.max, IntKind.signed, IntKind.bits] at this
  omega
theorem strL (l : List Int) : (strOfNums l).toList = l.map (fun n => UInt8.ofNat n.toNat) := by
  rw [ByteArray.toList_eq]
  simp [strOfNums]
theorem u8_inj {x y : Int} (hx : 0 ≤ x ∧ x < 256) (hy : 0 ≤ y ∧ y < 256) (h : UInt8.ofNat x.toNat = UInt8.ofNat y.toNat) : x = y := by
  have h2 := congrArg UInt8.toNat h
  simp only [UInt8.toNat_ofNat'] at h2
  omega
theorem strL_inj {l m : List Int} (hl : IsB l) (hm : IsB m) (h : (strOfNums l).toList = (strOfNums m).toList) : l = m := by
  rw [strL, strL] at h
  induction l generalizing m with
  | nil => cases m with
    | nil => rfl
    | cons y m => simp at h
  | cons x l ih => cases m with
    | nil => simp at h
    | cons y m =>
      simp only [List.map_cons, List.cons.injEq] at h
      rw [u8_inj (isB_cons.mp hl).1 (isB_cons.mp hm).1 h.1, ih (isB_cons.mp hl).2 (isB_cons.mp hm).2 h.2]
theorem strL_eq {l m : List Int} (hl : IsB l) (hm : IsB m) : ((strOfNums l).toList == (strOfNums m).toList) = decide (l = m) := by
  by_cases h : l = m
  · subst h; simp
  · rw [decide_eq_false h]
    exact beq_eq_false_iff_ne.mpr fun e => h (strL_inj hl hm e)
/-! ### what all laws of chapter 21 begin with -/
theorem sort_ev (l : List ByteArray) : name_Sort.f l = some (if l.length > 65536 then ([], 20) else if badAny l = true then ([], 6) else (rowB l, 0)) := by
  rw [rowB_eq]
  rfl
theorem alive100 : twoslotlaw21_alive.f 100 = some true := by
  unfold twoslotlaw21_alive.f
  rw [sort_ev]
  kernel_rfl
theorem alive_ev (k : Nat) (h : 100 ≤ k) : twoslotlaw21_alive.f k = some true := by
  obtain ⟨d, rfl⟩ : ∃ d, k = 100 + d := ⟨k - 100, by omega⟩
  induction d with
  | zero => exact alive100
  | succ d ih => exact twoslotlaw21_alive.mono _ _ (ih (by omega))
/-! ### what a place of a text shows -/
def wo (c : Int) : Int := if 48 ≤ c ∧ c ≤ 57 then c - 48 else if 97 ≤ c ∧ c ≤ 102 then c - 87 else 16
def thl3 (d : Int) : List Int → Int × Int
  | e :: f :: _ => if d = 120 ∧ wo e < 16 ∧ wo f < 16 ∧ (wo e * 16 + wo f < 33 ∨ 126 < wo e * 16 + wo f) then (wo e * 16 + wo f, 4) else (0, 0)
  | _ => (0, 0)
def thl2 : List Int → Int × Int
  | [] => (0, 0)
  | d :: l => if d = 34 ∨ d = 92 then (d, 2) else thl3 d l
def thl : List Int → Int × Int
  | [] => (0, 0)
  | c :: l => if c = 34 ∨ c < 33 ∨ 126 < c then (0, 0) else if c ≠ 92 then (c, 1) else thl2 l
theorem thl_c (c : Int) (l : List Int) : thl (c :: l) = if c = 34 ∨ c < 33 ∨ 126 < c then (0, 0) else if c ≠ 92 then (c, 1) else thl2 l := rfl
theorem thl2_c (d : Int) (l : List Int) : thl2 (d :: l) = if d = 34 ∨ d = 92 then (d, 2) else thl3 d l := rfl
theorem thl3_c (d e f : Int) (l : List Int) : thl3 d (e :: f :: l) = if d = 120 ∧ wo e < 16 ∧ wo f < 16 ∧ (wo e * 16 + wo f < 33 ∨ 126 < wo e * 16 + wo f) then (wo e * 16 + wo f, 4) else (0, 0) := rfl
theorem hex_all : (List.range 256).all (fun n => decide ((wo (n : Int) < 16 → hexv (n : Int) = wo (n : Int) ∧ hexd (wo (n : Int)) = (n : Int)) ∧ (hexv (n : Int) < 16 → 0 ≤ hexv (n : Int) ∧ (wo (n : Int) < 16 ∨ hexd (hexv (n : Int)) ≠ (n : Int))) ∧ 0 ≤ wo (n : Int) ∧ 0 ≤ hexv (n : Int))) = true := by kernel_rfl
theorem hex_facts {c : Int} (h : 0 ≤ c ∧ c < 256) : (wo c < 16 → hexv c = wo c ∧ hexd (wo c) = c) ∧ (hexv c < 16 → 0 ≤ hexv c ∧ (wo c < 16 ∨ hexd (hexv c) ≠ c)) ∧ 0 ≤ wo c ∧ 0 ≤ hexv c := by
  have := List.all_eq_true.mp hex_all c.toNat (List.mem_range.mpr (by omega))
  have := of_decide_eq_true this
  rw [show ((c.toNat : Nat) : Int) = c by omega] at this
  exact this
theorem hexd_inj : ∀ n : Int, 0 ≤ n → n < 16 → (48 ≤ hexd n ∧ hexd n ≤ 102) ∧ wo (hexd n) = n := by
  intro n h0 h1
  unfold hexd
  split
  · refine ⟨by omega, ?_⟩
    unfold wo
    rw [if_pos (by omega)]
    omega
  · refine ⟨by omega, ?_⟩
    unfold wo
    rw [if_neg (by omega), if_pos (by omega)]
    omega
theorem shownL_cases (c : Int) : ((c = 34 ∨ c = 92) ∧ shownL c = [92, c]) ∨ ((33 ≤ c ∧ c ≤ 126 ∧ c ≠ 34 ∧ c ≠ 92) ∧ shownL c = [c]) ∨ ((c < 33 ∨ 126 < c) ∧ shownL c = [92, 120, hexd (c / 16), hexd (c % 16)]) := by
  unfold shownL
  split
  · rename_i h
    exact .inl ⟨h, rfl⟩
  · split
    · exact .inr (.inl ⟨by omega, rfl⟩)
    · exact .inr (.inr ⟨by omega, rfl⟩)
theorem shownL_print {c : Int} (h0 : 0 ≤ c) (h1 : c < 256) : ∀ x ∈ shownL c, 33 ≤ x ∧ x ≤ 126 := by
  intro x hx
  rcases shownL_cases c with ⟨h2, h⟩ | ⟨h2, h⟩ | ⟨h2, h⟩ <;> rw [h] at hx
  · simp at hx; omega
  · simp at hx; omega
  · have e1 := hexd_inj (c / 16) (by omega) (by omega)
    have e2 := hexd_inj (c % 16) (by omega) (by omega)
    simp at hx
    omega
/-- What shows a byte is read as it. -/
theorem thl_shown {c : Int} (h0 : 0 ≤ c) (h1 : c < 256) (l : List Int) : thl (shownL c ++ l) = (c, ((shownL c).length : Int)) := by
  rcases shownL_cases c with ⟨h2, h⟩ | ⟨h2, h⟩ | ⟨h2, h⟩ <;> rw [h]
  · show thl (92 :: c :: l) = _
    rw [thl_c]
    rw [if_neg (by omega), if_neg (by omega)]
    rw [thl2_c]
    rw [if_pos h2]
    rfl
  · show thl (c :: l) = _
    rw [thl_c]
    rw [if_neg (by omega), if_pos (by omega)]
    rfl
  · show thl (92 :: 120 :: hexd (c / 16) :: hexd (c % 16) :: l) = _
    have e1 := (hexd_inj (c / 16) (by omega) (by omega)).2
    have e2 := (hexd_inj (c % 16) (by omega) (by omega)).2
    rw [thl_c]
    rw [if_neg (by omega), if_neg (by omega)]
    rw [thl2_c]
    rw [if_neg (by omega)]
    rw [thl3_c]
    rw [e1, e2, if_pos ⟨rfl, by omega, by omega, by omega⟩]
    rw [show c / 16 * 16 + c % 16 = c by omega]
    rfl
/-- What is read stands there as it is shown. -/
theorem thl_back {B : List Int} (hB : IsB B) (h : (thl B).2 ≠ 0) : 0 ≤ (thl B).1 ∧ (thl B).1 < 256 ∧ (thl B).2 = ((shownL (thl B).1).length : Int) ∧ B = shownL (thl B).1 ++ B.drop (shownL (thl B).1).length := by
  rcases B with _ | ⟨c, l⟩
  · exact absurd rfl h
  have hc := hB c (List.mem_cons_self ..)
  by_cases h1 : c = 34 ∨ c < 33 ∨ 126 < c
  · exact absurd (by rw [thl_c]; rw [if_pos h1]) h
  by_cases h2 : c ≠ 92
  · have e : thl (c :: l) = (c, 1) := by rw [thl_c]; rw [if_neg h1, if_pos h2]
    rw [e]
    rcases shownL_cases c with ⟨h3, _⟩ | ⟨_, h3⟩ | ⟨h3, _⟩
    · omega
    · rw [h3]; exact ⟨hc.1, hc.2, rfl, rfl⟩
    · omega
  have h2 : c = 92 := Classical.not_not.mp h2
  subst h2
  have e : thl (92 :: l) = thl2 l := by rw [thl_c]; rw [if_neg h1, if_neg (by omega)]
  rw [e] at h ⊢
  rcases l with _ | ⟨d, l⟩
  · exact absurd rfl h
  have hd := hB d (by simp)
  by_cases h3 : d = 34 ∨ d = 92
  · have e : thl2 (d :: l) = (d, 2) := by rw [thl2_c]; rw [if_pos h3]
    rw [e]
    rcases shownL_cases d with ⟨_, h4⟩ | ⟨h4, _⟩ | ⟨h4, _⟩
    · rw [h4]; exact ⟨hd.1, hd.2, rfl, rfl⟩
    · omega
    · omega
  have e : thl2 (d :: l) = thl3 d l := by rw [thl2_c]; rw [if_neg h3]
  rw [e] at h ⊢
  rcases l with _ | ⟨x, _ | ⟨y, l⟩⟩
  · exact absurd rfl h
  · exact absurd rfl h
  have hx := hex_facts (hB x (by simp))
  have hy := hex_facts (hB y (by simp))
  by_cases h4 : d = 120 ∧ wo x < 16 ∧ wo y < 16 ∧ (wo x * 16 + wo y < 33 ∨ 126 < wo x * 16 + wo y)
  · have e : thl3 d (x :: y :: l) = (wo x * 16 + wo y, 4) := by rw [thl3_c]; rw [if_pos h4]
    rw [e]
    have hx2 := hx.2.2.1
    have hy2 := hy.2.2.1
    rcases shownL_cases (wo x * 16 + wo y) with ⟨h5, _⟩ | ⟨h5, _⟩ | ⟨_, h5⟩
    · omega
    · omega
    · show 0 ≤ wo x * 16 + wo y ∧ wo x * 16 + wo y < 256 ∧ (4 : Int) = ((shownL (wo x * 16 + wo y)).length : Int) ∧ 92 :: d :: x :: y :: l = shownL (wo x * 16 + wo y) ++ (92 :: d :: x :: y :: l).drop (shownL (wo x * 16 + wo y)).length
      rw [h5, show (wo x * 16 + wo y) / 16 = wo x by omega, show (wo x * 16 + wo y) % 16 = wo y by omega, (hx.1 h4.2.1).2, (hy.1 h4.2.2.1).2, h4.1]
      exact ⟨by omega, by omega, rfl, rfl⟩
  · exact absurd (by rw [thl3_c]; rw [if_neg h4]) h
/-! ### the program's thing -/
theorem isB_bytesOf (s : ByteArray) : IsB (bytesOf s) := fun x hx => by have := bytesOf_range s x hx; omega
theorem str_bytesOf (s : ByteArray) : strOfNums (bytesOf s) = s := by
  apply (sbytes _ _).mpr
  rw [strOfNums_data]
  unfold bytesOf
  rw [List.map_map]
  conv => rhs; rw [← List.map_id s.data.toList]
  apply List.map_congr_left
  intro b _
  simp
theorem str_take (s : ByteArray) (n : Nat) : s.extract 0 n = strOfNums ((bytesOf s).take n) := by
  apply (sbytes _ _).mpr
  rw [strOfNums_data]
  unfold bytesOf
  rw [← List.map_take, List.map_map]
  conv => lhs; rw [← List.map_id (s.extract 0 n).data.toList]
  have e : (s.extract 0 n).data.toList = s.data.toList.take n := by simp [ByteArray.data_extract]
  rw [e]
  apply List.map_congr_left
  intro b _
  simp
theorem bytes_from (s : ByteArray) (n : Nat) : bytesOf (s.extract n s.size) = (bytesOf s).drop n := by
  unfold bytesOf
  rw [← List.map_drop]
  congr 1
  simp only [ByteArray.data_extract, Array.toList_extract, List.extract_eq_take_drop]
  exact List.take_of_length_le (by rw [List.length_drop, data_length]; exact Nat.le_refl _)
theorem chk_ev (u : ByteArray) (c : Int) (n : Nat) (h0 : 0 ≤ c) (h1 : c < 256) : chk u c n = if rd (bytesOf u) 0 = 34 then (0, 0) else if shownL c = (bytesOf u).take n then (c, (n : Int)) else (0, 0) := by
  unfold chk
  rw [rd_bytesOf, str_take, strL_eq (fun x hx => by have := shownL_print h0 h1 x hx; omega) (isB_take n (isB_bytesOf u))]
  by_cases h : bt u 0 = 34
  · rw [if_pos h, if_pos h]
  · rw [if_neg h, if_neg h]
    by_cases h2 : shownL c = (bytesOf u).take n
    · rw [if_pos (by simpa using h2), if_pos h2]
    · rw [if_neg (by simpa using h2), if_neg h2]
theorem pX_ev (u : ByteArray) : pX u = true ↔ ∃ l, bytesOf u = 92 :: 120 :: l := by
  unfold pX Lib.hasPrefix bytesOf
  rcases u.data.toList with _ | ⟨a, _ | ⟨b, l⟩⟩
  · simp
  · simp
  · simp
    constructor
    · rintro ⟨rfl, rfl⟩
      exact ⟨rfl, rfl⟩
    · rintro ⟨h1, h2⟩
      refine ⟨(UInt8.toNat_inj.mp ?_), (UInt8.toNat_inj.mp ?_)⟩
      · show (92 : UInt8).toNat = a.toNat
        have : (92 : UInt8).toNat = 92 := rfl
        omega
      · show (120 : UInt8).toNat = b.toNat
        have : (120 : UInt8).toNat = 120 := rfl
        omega
theorem shownL_len1 (c : Int) : 1 ≤ (shownL c).length ∧ (shownL c).length ≤ 4 := by
  rcases shownL_cases c with ⟨_, h⟩ | ⟨_, h⟩ | ⟨_, h⟩ <;> rw [h] <;> simp
theorem thing_ev (u : ByteArray) (hu : 0 < u.size) : thingF u = thl (bytesOf u) := by
  have hl := bytesOf_length u
  have hI := isB_bytesOf u
  have hbt : ∀ j : Nat, bt u (j : Int) = (bytesOf u).getD j 0 := fun j => by rw [← rd_bytesOf]; simp [rd]
  have b0 := hbt 0
  have b1 := hbt 1
  have b2 := hbt 2
  have b3 := hbt 3
  have hp := pX_ev u
  have hck := fun c n h0 h1 => chk_ev u c n h0 h1
  simp only [Int.natCast_zero, Int.cast_ofNat_Int] at b0 b1 b2 b3
  generalize hB : bytesOf u = B at *
  rcases B with _ | ⟨a, B⟩
  · simp at hl; omega
  have ha := hI a (List.mem_cons_self ..)
  have e0 : bt u 0 = a := b0
  have r0 : rd (a :: B) 0 = a := rfl
  by_cases ha92 : a = 92
  · subst ha92
    rcases B with _ | ⟨b, B⟩
    · -- a backslash alone
      have hs : u.size = 1 := hl.symm
      have hlo : longOf u = 1 := by unfold longOf; rw [if_neg (by omega), if_neg (by omega)]
      unfold thingF
      rw [hlo, if_neg (by omega)]
      show chk u (bt u 0) 1 = _
      rw [e0, hck 92 1 (by omega) (by omega), r0, if_neg (show ¬ ((92 : Int) = 34) by omega), if_neg (by simp [shownL])]
      rfl
    have hb := hI b (by simp)
    have e1 : bt u 1 = b := b1
    have hs : 2 ≤ u.size := by simp at hl; omega
    by_cases h4 : b = 120 ∧ 4 ≤ u.size
    · obtain ⟨rfl, h4⟩ := h4
      rcases B with _ | ⟨x, _ | ⟨y, B⟩⟩
      · simp at hl; omega
      · simp at hl; omega
      have hlo : longOf u = 4 := by unfold longOf; rw [if_pos ⟨hp.mpr ⟨_, rfl⟩, h4⟩]
      have e2 : bt u 2 = x := b2
      have e3 : bt u 3 = y := b3
      have hx := hex_facts (hI x (by simp))
      have hy := hex_facts (hI y (by simp))
      have hx0 := hx.2.2.2
      have hy0 := hy.2.2.2
      have ht : thl (92 :: 120 :: x :: y :: B) = if (120 : Int) = 120 ∧ wo x < 16 ∧ wo y < 16 ∧ (wo x * 16 + wo y < 33 ∨ 126 < wo x * 16 + wo y) then (wo x * 16 + wo y, 4) else (0, 0) := by
        rw [thl_c, if_neg (by omega), if_neg (by omega), thl2_c, if_neg (by omega), thl3_c]
      rw [ht]
      unfold thingF
      rw [hlo, if_pos rfl, e2, e3]
      by_cases hh : hexv x < 16 ∧ hexv y < 16
      · rw [if_pos hh, hck _ 4 (by omega) (by omega), r0, if_neg (by omega)]
        by_cases hw : wo x < 16 ∧ wo y < 16
        · have ex := hx.1 hw.1
          have ey := hy.1 hw.2
          rw [ex.1, ey.1]
          rcases shownL_cases (wo x * 16 + wo y) with ⟨h5, h6⟩ | ⟨h5, h6⟩ | ⟨h5, h6⟩ <;> rw [h6]
          · rw [if_neg (by simp), if_neg (by omega)]
          · rw [if_neg (by simp), if_neg (by omega)]
          · rw [show (wo x * 16 + wo y) / 16 = wo x by omega, show (wo x * 16 + wo y) % 16 = wo y by omega, ex.2, ey.2]
            rw [if_pos (by simp), if_pos ⟨rfl, hw.1, hw.2, h5⟩]
            rfl
        · rw [if_neg (c := _ ∧ _) (by omega)]
          refine if_neg fun e => ?_
          rcases shownL_cases (hexv x * 16 + hexv y) with ⟨h5, h6⟩ | ⟨h5, h6⟩ | ⟨h5, h6⟩ <;> rw [h6] at e
          · simp at e
          · simp at e
          · rw [show (hexv x * 16 + hexv y) / 16 = hexv x by omega, show (hexv x * 16 + hexv y) % 16 = hexv y by omega] at e
            simp at e
            rcases (hx.2.1 hh.1).2 with hx1 | hx1
            · rcases (hy.2.1 hh.2).2 with hy1 | hy1
              · exact hw ⟨hx1, hy1⟩
              · exact hy1 e.2
            · exact hx1 e.1
      · rw [if_neg hh, if_neg (fun e => hh ⟨by rw [(hx.1 e.2.1).1]; exact e.2.1, by rw [(hy.1 e.2.2.1).1]; exact e.2.2.1⟩)]
    · have hlo : longOf u = 2 := by
        unfold longOf
        rw [if_neg ?_, if_pos ⟨e0, hs⟩]
        rintro ⟨h5, h6⟩
        obtain ⟨l, h5⟩ := hp.mp h5
        injection h5 with _ h5
        injection h5 with h5 _
        exact h4 ⟨h5, h6⟩
      unfold thingF
      rw [hlo, if_neg (by omega)]
      show chk u (bt u 1) 2 = _
      have ht : thl (92 :: b :: B) = if b = 34 ∨ b = 92 then (b, 2) else thl3 b B := by
        rw [thl_c, if_neg (by omega), if_neg (by omega), thl2_c]
      rw [e1, hck b 2 hb.1 hb.2, r0, ht, if_neg (show ¬ ((92 : Int) = 34) by omega)]
      by_cases hb34 : b = 34 ∨ b = 92
      · rw [if_pos hb34, if_pos (by unfold shownL; rw [if_pos hb34]; rfl)]
        rfl
      · rw [if_neg hb34]
        have h0 : thl3 b B = (0, 0) := by
          rcases B with _ | ⟨x, _ | ⟨y, B⟩⟩
          · rfl
          · rfl
          · rw [thl3_c, if_neg]
            rintro ⟨h5, _⟩
            exact h4 ⟨h5, by simp at hl; omega⟩
        rw [h0]
        refine if_neg fun e => ?_
        rcases shownL_cases b with ⟨h5, h6⟩ | ⟨h5, h6⟩ | ⟨h5, h6⟩ <;> rw [h6] at e
        · exact hb34 h5
        · simp at e
        · simp at e
  · have hlo : longOf u = 1 := by
      unfold longOf
      rw [if_neg ?_, if_neg (by rw [e0]; omega)]
      rintro ⟨h5, h6⟩
      obtain ⟨l, h5⟩ := hp.mp h5
      injection h5 with h5 _
      exact ha92 h5
    unfold thingF
    rw [hlo, if_neg (by omega)]
    show chk u (bt u 0) 1 = _
    rw [e0, hck a 1 ha.1 ha.2, r0]
    by_cases h34 : a = 34
    · rw [if_pos h34, thl_c, if_pos (.inl h34)]
    · rw [if_neg h34]
      by_cases h5 : a < 33 ∨ 126 < a
      · have ht : thl (a :: B) = (0, 0) := by rw [thl_c, if_pos (.inr h5)]
        rw [ht]
        refine if_neg fun e => ?_
        rcases shownL_cases a with ⟨h6, _⟩ | ⟨h6, _⟩ | ⟨_, h6⟩
        · omega
        · omega
        · rw [h6] at e
          simp at e
      · have ht : thl (a :: B) = (a, 1) := by rw [thl_c, if_neg (by omega), if_pos ha92]
        rw [ht, if_pos]
        · rfl
        · unfold shownL
          rw [if_neg (by omega), if_pos (by omega)]
          rfl
/-! ### the document's thing -/
theorem worth_j (k : Nat) (c : Int) (b : Bool) : twoslotref21_worth.j0 (k + 1) c b = if b = true then some ((c - 48) % 256) else if c ≥ 97 then (if c ≤ 102 then some (((c - 97) % 256) + 10) else some 16) else some 16 := by
  simp only [twoslotref21_worth.j0]
theorem wo_ev (k : Nat) (c : Int) (h : 0 ≤ c ∧ c < 256) : twoslotref21_worth.f (k + 1) c = some (wo c) := by
  have hw : wo c = if 48 ≤ c ∧ c ≤ 57 then c - 48 else if 97 ≤ c ∧ c ≤ 102 then c - 87 else 16 := rfl
  rw [hw]
  unfold twoslotref21_worth.f
  by_cases h1 : 48 ≤ c ∧ c ≤ 57
  · rw [if_pos h1, if_pos h1.1, worth_j, if_pos (decide_eq_true h1.2)]
    congr 1
    omega
  · rw [if_neg h1]
    have hb : (if c ≥ 48 then twoslotref21_worth.j0 (k + 1) c (decide (c ≤ 57)) else twoslotref21_worth.j0 (k + 1) c false) = twoslotref21_worth.j0 (k + 1) c false := by
      by_cases h2 : c ≥ 48
      · rw [if_pos h2, decide_eq_false (by omega)]
      · rw [if_neg h2]
    rw [hb, worth_j, if_neg (by simp)]
    by_cases h3 : 97 ≤ c ∧ c ≤ 102
    · rw [if_pos h3, if_pos h3.1, if_pos h3.2]
      congr 1
      omega
    · rw [if_neg h3]
      by_cases h4 : c ≥ 97
      · rw [if_pos h4, if_neg (by omega)]
      · rw [if_neg h4]
theorem bt_get (s : ByteArray) (at_ j : Nat) (l : List Int) (hl : (bytesOf s).drop at_ = l) : bt s ((at_ + j : Nat) : Int) = l.getD j 0 := by
  rw [← rd_bytesOf, ← hl]
  simp only [rd, List.getD, List.getElem?_drop, Int.toNat_natCast]
theorem wrap_hex (p q : Int) (h0 : 0 ≤ p) (h1 : p < 16) (h2 : 0 ≤ q) (h3 : q < 16) : wrap64 (wrap64 (p * 16) + q) = p * 16 + q := by
  have e : wrap64 (p * 16) = p * 16 := by unfold wrap64; omega
  rw [e]
  unfold wrap64
  omega
theorem thing_j0 (k : Nat) (x0 : ByteArray) (x1 : Int) (x6 : Int) (x20 : Bool) : twoslotref21_thing.j0 (k + 1) x0 x1 x6 x20 = if x20 = true then (some (0, 0)) else (if x6 = 92 then (if (wrap64 (x1 + 1)) < (x0.size : Int) then (if 0 ≤ (wrap64 (x1 + 1)) then (if (bt x0 (wrap64 (x1 + 1))) = 34 then (twoslotref21_thing.j1 k x0 x1 true) else (twoslotref21_thing.j1 k x0 x1 ((bt x0 (wrap64 (x1 + 1))) == 92))) else (none)) else (twoslotref21_thing.j1 k x0 x1 false)) else (some (x6, 1))) := by
  rw [twoslotref21_thing.j0]
theorem thing_j1 (k : Nat) (x0 : ByteArray) (x1 : Int) (x42 : Bool) : twoslotref21_thing.j1 (k + 1) x0 x1 x42 = if x42 = true then (if 0 ≤ (wrap64 (x1 + 1)) then (if (wrap64 (x1 + 1)) < (x0.size : Int) then (some (bt x0 (wrap64 (x1 + 1)), 2)) else (none)) else (none)) else (if (wrap64 (x1 + 3)) < (x0.size : Int) then (if 0 ≤ (wrap64 (x1 + 1)) then (if (wrap64 (x1 + 1)) < (x0.size : Int) then (if (bt x0 (wrap64 (x1 + 1))) = 120 then (if 0 ≤ (wrap64 (x1 + 2)) then (if (wrap64 (x1 + 2)) < (x0.size : Int) then ((twoslotref21_worth.f k (bt x0 (wrap64 (x1 + 2)))).bind fun t231 => (if t231 < 16 then (if 0 ≤ (wrap64 (x1 + 3)) then ((twoslotref21_worth.f k (bt x0 (wrap64 (x1 + 3)))).bind fun t232 => (twoslotref21_thing.j2 k x0 x1 (decide (t232 < 16)))) else (none)) else (twoslotref21_thing.j2 k x0 x1 false))) else (none)) else (none)) else (twoslotref21_thing.j2 k x0 x1 false)) else (none)) else (none)) else (twoslotref21_thing.j2 k x0 x1 false)) := by
  rw [twoslotref21_thing.j1]
theorem thing_j2 (k : Nat) (x0 : ByteArray) (x1 : Int) (x74 : Bool) : twoslotref21_thing.j2 (k + 1) x0 x1 x74 = if x74 = true then (if 0 ≤ (wrap64 (x1 + 2)) then (if (wrap64 (x1 + 2)) < (x0.size : Int) then ((twoslotref21_worth.f k (bt x0 (wrap64 (x1 + 2)))).bind fun t233 => (if 0 ≤ (wrap64 (x1 + 3)) then (if (wrap64 (x1 + 3)) < (x0.size : Int) then ((twoslotref21_worth.f k (bt x0 (wrap64 (x1 + 3)))).bind fun t234 => (if (wrap64 ((wrap64 (t233 * 16)) + t234)) < 33 then (some ((wrap64 ((wrap64 (t233 * 16)) + t234)) % 256, 4)) else (if (wrap64 ((wrap64 (t233 * 16)) + t234)) > 126 then (some ((wrap64 ((wrap64 (t233 * 16)) + t234)) % 256, 4)) else (some (0, 0))))) else (none)) else (none))) else (none)) else (none)) else (some (0, 0)) := by
  rw [twoslotref21_thing.j2]
theorem refThing_ev (k : Nat) (s : ByteArray) (at_ : Nat) (ha : at_ < s.size) (hs : s.size ≤ 100000) : twoslotref21_thing.f (k + 1 + 1 + 1 + 1) s (at_ : Int) = some (thl ((bytesOf s).drop at_)) := by
  have hl : ((bytesOf s).drop at_).length = s.size - at_ := by rw [List.length_drop, bytesOf_length]
  have hI := isB_drop at_ (isB_bytesOf s)
  have hb := fun j => bt_get s at_ j _ rfl
  generalize (bytesOf s).drop at_ = B at *
  have w1 : wrap64 ((at_ : Int) + 1) = ((at_ + 1 : Nat) : Int) := by unfold wrap64; omega
  have w2 : wrap64 ((at_ : Int) + 2) = ((at_ + 2 : Nat) : Int) := by unfold wrap64; omega
  have w3 : wrap64 ((at_ : Int) + 3) = ((at_ + 3 : Nat) : Int) := by unfold wrap64; omega
  rcases B with _ | ⟨a, B⟩
  · simp at hl; omega
  have e0 : bt s (at_ : Int) = a := hb 0
  have haI := hI a (List.mem_cons_self ..)
  unfold twoslotref21_thing.f
  rw [if_pos (by omega), if_pos (by omega), e0, thl_c]
  have g0 : ∀ b, twoslotref21_thing.j0 (k + 1 + 1 + 1 + 1) s (at_ : Int) a true = some b ↔ b = (0, 0) := fun b => by rw [thing_j0, if_pos rfl]; simp [eq_comm]
  by_cases h1 : a = 34
  · rw [if_pos h1, if_pos (.inl h1)]
    exact (g0 _).mpr rfl
  rw [if_neg h1]
  by_cases h2 : a < 33
  · rw [if_pos h2, if_pos (.inr (.inl h2))]
    exact (g0 _).mpr rfl
  rw [if_neg h2]
  by_cases h3 : a > 126
  · rw [decide_eq_true h3, if_pos (.inr (.inr h3))]
    exact (g0 _).mpr rfl
  rw [decide_eq_false h3, if_neg (by omega)]
  rw [thing_j0]
  rw [if_neg (by simp)]
  by_cases h4 : a = 92
  rotate_left
  · rw [if_neg h4, if_pos h4]
  rw [if_pos h4, w1, if_neg (show ¬ (a ≠ 92) from fun h => h h4)]
  have j1f : ∀ m, 1 ≤ m → twoslotref21_thing.j2 m s (at_ : Int) false = some (0, 0) := fun m hm => by
    obtain ⟨m, rfl⟩ : ∃ q, m = q + 1 := ⟨m - 1, by omega⟩
    rw [thing_j2, if_neg (by simp)]
  rcases B with _ | ⟨b, B⟩
  · rw [if_neg (by simp at hl; omega)]
    rw [thing_j1]
    rw [if_neg (by simp), w3, if_neg (by simp at hl; omega), j1f _ (by omega)]
    rfl
  have e1 : bt s ((at_ + 1 : Nat) : Int) = b := hb 1
  have hbI := hI b (by simp)
  rw [if_pos (show ((at_ + 1 : Nat) : Int) < (s.size : Int) by simp at hl; omega), if_pos (show (0 : Int) ≤ ((at_ + 1 : Nat) : Int) by omega), e1, thl2_c]
  by_cases h5 : b = 34 ∨ b = 92
  · rw [if_pos h5]
    have key : twoslotref21_thing.j1 (k + 1 + 1 + 1) s (at_ : Int) true = some (b, 2) := by
      rw [thing_j1]
      rw [if_pos rfl, w1, if_pos (by omega), if_pos (by simp at hl; omega), e1]
    by_cases h6 : b = 34
    · rw [if_pos h6, key]
    · rw [if_neg h6, show (b == 92) = true by simp; omega, key]
  rw [if_neg h5, if_neg (show ¬ (b = 34) by omega), show (b == 92) = false by simp; omega]
  rw [thing_j1]
  rw [if_neg (by simp), w3, w2, w1]
  rcases B with _ | ⟨x, _ | ⟨y, B⟩⟩
  · rw [if_neg (by simp at hl; omega), j1f _ (by omega)]
    rfl
  · rw [if_neg (by simp at hl; omega), j1f _ (by omega)]
    rfl
  have e2 : bt s ((at_ + 2 : Nat) : Int) = x := hb 2
  have e3 : bt s ((at_ + 3 : Nat) : Int) = y := hb 3
  have hx := hI x (by simp)
  have hy := hI y (by simp)
  have hx0 := (hex_facts hx).2.2.1
  have hy0 := (hex_facts hy).2.2.1
  simp at hl
  rw [if_pos (by omega), if_pos (by omega), if_pos (by omega), e1, thl3_c]
  by_cases h6 : b = 120
  rotate_left
  · rw [if_neg h6, j1f _ (by omega), if_neg (fun e => h6 e.1)]
  rw [if_pos h6, if_pos (by omega), if_pos (by omega), e2, wo_ev _ _ hx]
  rw [Option.bind_some]
  by_cases h7 : wo x < 16
  rotate_left
  · rw [if_neg h7, j1f _ (by omega), if_neg (fun e => h7 e.2.1)]
  rw [if_pos h7, if_pos (by omega), e3, wo_ev _ _ hy]
  rw [Option.bind_some]
  by_cases h8 : wo y < 16
  rotate_left
  · rw [decide_eq_false h8, j1f _ (by omega), if_neg (fun e => h8 e.2.2.1)]
  rw [decide_eq_true h8]
  rw [thing_j2]
  rw [if_pos rfl, w2, if_pos (by omega), if_pos (by omega), e2, wo_ev _ _ hx]
  rw [Option.bind_some]
  rw [w3, if_pos (by omega), if_pos (by omega), e3, wo_ev _ _ hy]
  rw [Option.bind_some]
  rw [wrap_hex (wo x) (wo y) hx0 h7 hy0 h8]
  by_cases h9 : wo x * 16 + wo y < 33
  · rw [if_pos h9, if_pos ⟨h6, h7, h8, .inl h9⟩]
    congr 2
    omega
  rw [if_neg h9]
  by_cases h10 : wo x * 16 + wo y > 126
  · rw [if_pos h10, if_pos ⟨h6, h7, h8, .inr h10⟩]
    congr 2
    omega
  rw [if_neg h10, if_neg (by omega)]
end Go.Proofs.YtmhfgcmgeglmhaaDoor.P
