import Derived.Test.YtdpllcmpndcbnaaPx5
import Derived.Test.YtdpllcmpndcbnaaPx3
import Derived.Test.YtdpllcmpndcbnaaPx6
namespace Go.Proofs.Ytdpllcmpndcbnaa.P
open Go.RowKit Go.Proofs.YtdpllcmpndcbnaaW.PrintWords Go.Proofs.YtdpllcmpndcbnaaW.PrintLast Go.Proofs.YtdpllcmpndcbnaaW.PrintMore
attribute [local go_sem] max2_int min2_int max_two min_two max_three min_three max_four min_four
set_option linter.unusedVariables false
set_option linter.unusedSimpArgs false
theorem okW {a b c d : Int} (hk : okP a b c d = true) : 32 ≤ a * c ∧ a * c ≤ 768 := by
  obtain ⟨h1, h2, h3, h4, h5, h6, h7, h8, h9⟩ := okP_iff.mp hk
  exact ⟨h7, (mul_small h1 h2 h5 h6).2⟩
/-- The error of a length. -/
def lenE (a b c d n : Int) : Int := if okP a b c d = true then (if n < 0 then 2 else if n > mostOf (a * c) then 3 else 0) else 2
def objS (W n : Int) : Int := (n + W - 1) / W
def objL (W n : Int) : Int := if objS W n ≤ (W - 7) / 6 then 0 else (objS W n + W / 6 - 1) / (W / 6)
theorem mostOf_le (W : Int) : mostOf W ≤ 32768 := by unfold mostOf; omega
theorem lenE_zero {a b c d n : Int} (h : lenE a b c d n = 0) : okP a b c d = true ∧ 0 ≤ n ∧ n ≤ mostOf (a * c) := by
  unfold lenE at h
  by_cases hk : okP a b c d = true
  · rw [if_pos hk] at h
    by_cases h1 : n < 0
    · rw [if_pos h1] at h; omega
    · rw [if_neg h1] at h
      by_cases h2 : n > mostOf (a * c)
      · rw [if_pos h2] at h; omega
      · exact ⟨hk, by omega, by omega⟩
  · rw [if_neg hk] at h; omega
theorem lenE_vals (a b c d n : Int) : lenE a b c d n = 0 ∨ lenE a b c d n = 2 ∨ lenE a b c d n = 3 := by
  unfold lenE
  split
  · split
    · omega
    · split <;> omega
  · omega
theorem objS_bd {W n : Int} (hW : 32 ≤ W) (hn : 0 ≤ n) (hm : n ≤ 32768) : 0 ≤ objS W n ∧ objS W n ≤ 1024 ∧ objS W n * W < n + W ∧ n ≤ objS W n * W := by
  have h := Int.mul_ediv_add_emod (n + W - 1) W
  have h1 := Int.emod_nonneg (n + W - 1) (show W ≠ 0 by omega)
  have h2 := Int.emod_lt_of_pos (n + W - 1) (show 0 < W by omega)
  have h3 : 0 ≤ objS W n := Int.ediv_nonneg (by omega) (by omega)
  have hc : W * ((n + W - 1) / W) = objS W n * W := Int.mul_comm _ _
  have h4 : objS W n * 32 ≤ objS W n * W := Int.mul_le_mul_of_nonneg_left hW h3
  refine ⟨h3, ?_, by omega, by omega⟩
  by_cases hx : objS W n ≤ 1024
  · exact hx
  · exfalso
    have h5 : 1025 * W ≤ objS W n * W := Int.mul_le_mul_of_nonneg_right (by omega) (by omega)
    omega
theorem objL_bd {W n : Int} (hW : 32 ≤ W) (hW2 : W ≤ 768) (hn : 0 ≤ n) (hm : n ≤ 32768) : 0 ≤ objL W n ∧ objL W n ≤ 1024 := by
  obtain ⟨s0, s1, s2, s3⟩ := objS_bd hW hn hm
  unfold objL
  split
  · omega
  · have h3 : 0 ≤ (objS W n + W / 6 - 1) / (W / 6) := Int.ediv_nonneg (by omega) (by omega)
    refine ⟨h3, Int.le_of_lt_add_one (Int.ediv_lt_of_lt_mul (by omega) ?_)⟩
    have h5 : (1024 + 1) * 5 ≤ (1024 + 1) * (W / 6) := Int.mul_le_mul_of_nonneg_left (by omega) (by omega)
    omega
theorem up_ev {x y : Int} (hx : 0 ≤ x) (hx2 : x ≤ 40000) (hy : 1 ≤ y) (hy2 : y ≤ 1000) : layout_up.f x y = some ((x + y - 1) / y) := by
  have h3 : 0 ≤ (x + y - 1) / y := Int.ediv_nonneg (by omega) (by omega)
  have h4 : (x + y - 1) / y ≤ x + y - 1 := Int.ediv_le_self _ (by omega)
  unfold layout_up.f
  rw [if_neg (by omega), show wrap64 (y - 1) = y - 1 from by unfold wrap64; omega, show wrap64 (x + (y - 1)) = x + y - 1 from by unfold wrap64; omega, Int.tdiv_eq_ediv_of_nonneg (by omega)]
  rw [show wrap64 ((x + y - 1) / y) = (x + y - 1) / y from by unfold wrap64; omega]
theorem width_ev {a b c d : Int} (hk : okP a b c d = true) : layout_width.f a b c d = some (a * c) := by
  have := okW hk
  unfold layout_width.f
  rw [show wrap64 (a * c) = a * c from by unfold wrap64; omega]
theorem direct_ev {a b c d : Int} (hk : okP a b c d = true) : layout_direct.f a b c d = some ((a * c - 7) / 6) := by
  have := okW hk
  unfold layout_direct.f
  rw [width_ev hk, Option.bind_some, show wrap64 (a * c - 7) = a * c - 7 from by unfold wrap64; omega, Int.tdiv_eq_ediv_of_nonneg (by omega), show wrap64 ((a * c - 7) / 6) = (a * c - 7) / 6 from by unfold wrap64; omega]
theorem leaf_ev {a b c d : Int} (hk : okP a b c d = true) : layout_leaf.f a b c d = some (a * c / 6) := by
  have := okW hk
  unfold layout_leaf.f
  rw [width_ev hk, Option.bind_some, Int.tdiv_eq_ediv_of_nonneg (by omega), show wrap64 (a * c / 6) = a * c / 6 from by unfold wrap64; omega]
theorem most_ev {a b c d : Int} (hk : okP a b c d = true) : layout_most.f a b c d = some (mostOf (a * c)) := by
  have := okW hk
  obtain ⟨c1, c2, c3, c4⟩ := mostOf_small (W := a * c) (by omega) (by omega)
  unfold layout_most.f
  rw [direct_ev hk, Option.bind_some, leaf_ev hk, Option.bind_some, width_ev hk, Option.bind_some, show wrap64 ((a * c - 7) / 6 * (a * c / 6)) = (a * c - 7) / 6 * (a * c / 6) from by unfold wrap64; omega,
    show wrap64 ((a * c - 7) / 6 * (a * c / 6) * (a * c)) = (a * c - 7) / 6 * (a * c / 6) * (a * c) from by unfold wrap64; omega]
  congr 1
  unfold mn mostOf
  split <;> omega
theorem object_ev (a b c d n : Int) : layout_object.f a b c d n = some (if lenE a b c d n = 0 then (objS (a * c) n, objL (a * c) n, 0) else (0, 0, lenE a b c d n)) := by
  unfold layout_object.f
  rw [show layout_Check.f a b c d = some (if okP a b c d = true then 0 else 2) from rfl, Option.bind_some]
  by_cases hk : okP a b c d = true
  · have hw := okW hk
    rw [if_pos hk, if_pos rfl]
    by_cases h1 : n < 0
    · have e : lenE a b c d n = 2 := by unfold lenE; rw [if_pos hk, if_pos h1]
      rw [if_pos h1, e, if_neg (by omega)]
    · rw [if_neg h1, most_ev hk, Option.bind_some]
      by_cases h2 : n > mostOf (a * c)
      · have e : lenE a b c d n = 3 := by unfold lenE; rw [if_pos hk, if_neg h1, if_pos h2]
        rw [if_pos h2, e, if_neg (by omega)]
      · have hm := mostOf_le (a * c)
        have e : lenE a b c d n = 0 := by unfold lenE; rw [if_pos hk, if_neg h1, if_neg h2]
        obtain ⟨s0, s1, s2, s3⟩ := objS_bd (W := a * c) (n := n) (by omega) (by omega) (by omega)
        rw [if_neg h2, width_ev hk, Option.bind_some, up_ev (by omega) (by omega) (by omega) (by omega), Option.bind_some, direct_ev hk, Option.bind_some, e, if_pos rfl]
        by_cases h3 : (n + a * c - 1) / (a * c) > (a * c - 7) / 6
        · rw [if_pos h3, leaf_ev hk, Option.bind_some]
          unfold objS at s0 s1
          rw [up_ev (by omega) (by omega) (by omega) (by omega), Option.bind_some]
          unfold objL objS
          rw [if_neg (by omega)]
        · rw [if_neg h3]
          unfold objL objS
          rw [if_pos (by omega)]
  · have e : lenE a b c d n = 2 := by unfold lenE; rw [if_neg hk]
    rw [if_neg hk, if_neg (by omega), e, if_neg (by omega)]
theorem Stripes_ev (a b c d n : Int) : layout_Stripes.f a b c d n = some (if lenE a b c d n = 0 then (objS (a * c) n, 0) else (0, lenE a b c d n)) := by
  unfold layout_Stripes.f
  rw [object_ev, Option.bind_some]
  split <;> rfl
theorem Leaves_ev (a b c d n : Int) : layout_Leaves.f a b c d n = some (if lenE a b c d n = 0 then (objL (a * c) n, 0) else (0, lenE a b c d n)) := by
  unfold layout_Leaves.f
  rw [object_ev, Option.bind_some]
  split <;> rfl
theorem mn_one {x : Int} : mn x 1 = min x 1 := by unfold mn; split <;> omega
theorem Depth_ev (a b c d n : Int) : layout_Depth.f a b c d n = some (if lenE a b c d n = 0 then (min (objL (a * c) n) 1, 0) else (0, lenE a b c d n)) := by
  unfold layout_Depth.f
  rw [object_ev, Option.bind_some]
  split
  · rw [mn_one]
  · rw [mn_one]; rfl
theorem objB {a b c d n : Int} (e : lenE a b c d n = 0) : 0 ≤ objS (a * c) n ∧ objS (a * c) n ≤ 1024 ∧ 0 ≤ objL (a * c) n ∧ objL (a * c) n ≤ 1024 := by
  obtain ⟨hk, h0, h1⟩ := lenE_zero e
  have hw := okW hk
  have hm := mostOf_le (a * c)
  obtain ⟨s0, s1, _, _⟩ := objS_bd (W := a * c) (n := n) (by omega) (by omega) (by omega)
  obtain ⟨l0, l1⟩ := objL_bd (W := a * c) (n := n) (by omega) (by omega) (by omega) (by omega)
  exact ⟨s0, s1, l0, l1⟩
theorem most_facts {W : Int} (h1 : 32 ≤ W) (h2 : W ≤ 768) : W ≤ mostOf W ∧ mostOf W ≤ (W - 7) / 6 * (W / 6) * W ∧ objL W (mostOf W) ≤ (W - 7) / 6 := by
  obtain ⟨c1, c2, c3, c4⟩ := mostOf_small (W := W) (by omega) h2
  have hm : mostOf W ≤ (W - 7) / 6 * (W / 6) * W := by unfold mostOf; omega
  have d1 : 4 ≤ (W - 7) / 6 := by omega
  have l1 : 5 ≤ W / 6 := by omega
  have dl : 4 * 5 ≤ (W - 7) / 6 * (W / 6) := Int.mul_le_mul d1 l1 (by omega) (by omega)
  have dw : 20 * W ≤ (W - 7) / 6 * (W / 6) * W := Int.mul_le_mul_of_nonneg_right (by omega) (by omega)
  have hw : W ≤ mostOf W := by unfold mostOf; omega
  refine ⟨hw, hm, ?_⟩
  have hS : objS W (mostOf W) ≤ (W - 7) / 6 * (W / 6) := by
    unfold objS
    refine Int.le_of_lt_add_one (Int.ediv_lt_of_lt_mul (by omega) ?_)
    rw [Int.add_mul]
    omega
  unfold objL
  split
  · omega
  · refine Int.le_of_lt_add_one (Int.ediv_lt_of_lt_mul (by omega) ?_)
    rw [Int.add_mul]
    omega
theorem objS_mono {W m n : Int} (hW : 0 < W) (h : m ≤ n) : objS W m ≤ objS W n := Int.ediv_le_ediv hW (by omega)
theorem objL_mono {W m n : Int} (hW : 32 ≤ W) (h0 : 0 ≤ m) (h : m ≤ n) : objL W m ≤ objL W n := by
  have hs := objS_mono (W := W) (by omega) h
  have h00 : 0 ≤ objS W m := Int.ediv_nonneg (by omega) (by omega)
  unfold objL
  split
  · split
    · omega
    · exact Int.ediv_nonneg (by omega) (by omega)
  · split
    · omega
    · exact Int.ediv_le_ediv (by omega) (by omega)
theorem objL_fits {a b c d n : Int} (e : lenE a b c d n = 0) : objL (a * c) n ≤ (a * c - 7) / 6 := by
  obtain ⟨hk, h0, h1⟩ := lenE_zero e
  have hw := okW hk
  obtain ⟨_, _, m3⟩ := most_facts hw.1 hw.2
  exact Int.le_trans (objL_mono hw.1 h0 h1) m3
theorem objS_fits {a b c d n : Int} (e : lenE a b c d n = 0) (h : min (objL (a * c) n) 1 = 0) : objS (a * c) n ≤ (a * c - 7) / 6 := by
  obtain ⟨hk, h0, h1⟩ := lenE_zero e
  have hw := okW hk
  have hm := mostOf_le (a * c)
  have s0 := (objB e).1
  by_cases hs : objS (a * c) n ≤ (a * c - 7) / 6
  · exact hs
  · exfalso
    unfold objL at h
    rw [if_neg hs] at h
    have : 1 ≤ (objS (a * c) n + a * c / 6 - 1) / (a * c / 6) := (Int.le_ediv_iff_mul_le (by omega)).mpr (by omega)
    omega
/-! Bytes as numbers. -/
def IsB (l : List Int) : Prop := ∀ x ∈ l, 0 ≤ x ∧ x < 256
theorem isB_nil : IsB [] := fun _ h => by cases h
theorem isB_cons {x : Int} {l : List Int} : IsB (x :: l) ↔ (0 ≤ x ∧ x < 256) ∧ IsB l := by unfold IsB; simp
theorem isB_append {l m : List Int} : IsB (l ++ m) ↔ IsB l ∧ IsB m := by
  unfold IsB
  constructor
  · intro h; exact ⟨fun x hx => h x (List.mem_append_left _ hx), fun x hx => h x (List.mem_append_right _ hx)⟩
  · rintro ⟨h1, h2⟩ x hx
    rcases List.mem_append.mp hx with h | h
    · exact h1 x h
    · exact h2 x h
theorem isB_take {l : List Int} (n : Nat) (h : IsB l) : IsB (l.take n) := fun x hx => h x (List.mem_of_mem_take hx)
theorem isB_drop {l : List Int} (n : Nat) (h : IsB l) : IsB (l.drop n) := fun x hx => h x (List.mem_of_mem_drop hx)
theorem isB_zeros (n : Nat) : IsB (List.replicate n 0) := fun x hx => by
  have := List.eq_of_mem_replicate hx
  omega
theorem isB_wf {l : List Int} (h : ∀ x ∈ l, (Lit.int .u8 x).wf = true) : IsB l := fun x hx => by
  have := h x hx
  simp [Lit.wf, IntKind.min, IntKind.max, IntKind.signed, IntKind.bits] at this
  omega
theorem strL (l : List Int) : (strOfNums l).toList = l.map (fun n => UInt8.ofNat n.toNat) := by
  rw [ByteArray.toList_eq]
  simp [strOfNums]
theorem u8_inj {x y : Int} (hx : 0 ≤ x ∧ x < 256) (hy : 0 ≤ y ∧ y < 256) (h : UInt8.ofNat x.toNat = UInt8.ofNat y.toNat) : x = y := by
  have h2 := congrArg UInt8.toNat h
  simp only [UInt8.toNat_ofNat'] at h2
  omega
theorem strL_inj {l m : List Int} (hl : IsB l) (hm : IsB m) (h : (strOfNums l).toList = (strOfNums m).toList) : l = m := by
  rw [strL, strL] at h
  induction l generalizing m with
  | nil => cases m with
    | nil => rfl
    | cons y m => simp at h
  | cons x l ih => cases m with
    | nil => simp at h
    | cons y m =>
      simp only [List.map_cons, List.cons.injEq] at h
      rw [u8_inj (isB_cons.mp hl).1 (isB_cons.mp hm).1 h.1, ih (isB_cons.mp hl).2 (isB_cons.mp hm).2 h.2]
theorem strL_eq {l m : List Int} (hl : IsB l) (hm : IsB m) : ((strOfNums l).toList == (strOfNums m).toList) = decide (l = m) := by
  by_cases h : l = m
  · subst h; simp
  · rw [decide_eq_false h]
    exact beq_eq_false_iff_ne.mpr fun e => h (strL_inj hl hm e)
/-- The great end first. -/
def beL : Nat → Int → List Int
  | 0, _ => []
  | n + 1, x => (x / 256 ^ n % 256) :: beL n x
theorem beL_len : ∀ (n : Nat) (x : Int), (beL n x).length = n
  | 0, _ => rfl
  | n + 1, x => by simp [beL, beL_len n x]
theorem beL_isB : ∀ (n : Nat) (x : Int), IsB (beL n x)
  | 0, _ => isB_nil
  | n + 1, x => isB_cons.mpr ⟨by omega, beL_isB n x⟩
def numL (l : List Int) : Int := l.foldl (fun n c => n * 256 + c) 0
theorem numL_1 {x : Int} (h0 : 0 ≤ x) (h1 : x < 256) : numL (beL 1 x) = x := by
  simp [numL, beL]; omega
theorem numL_2 {x : Int} (h0 : 0 ≤ x) (h1 : x < 65536) : numL (beL 2 x) = x := by
  simp [numL, beL]; omega
theorem numL_4 {x : Int} (h0 : 0 ≤ x) (h1 : x < 4294967296) : numL (beL 4 x) = x := by
  simp [numL, beL]; omega
/-- Bytes, and 0 up to a width: where there is room. -/
theorem wideL_fits {n : Nat} {l : List Int} (h : l.length ≤ n) : wideL n l = l ++ List.replicate (n - l.length) 0 := by
  unfold wideL
  rw [Nat.min_eq_left h, List.take_length, List.drop_replicate]
theorem wideL_len (n : Nat) (l : List Int) : (wideL n l).length = n := by
  unfold wideL
  rw [List.length_append, List.length_take, List.length_drop, List.length_replicate]
  omega
theorem wideL_isB {n : Nat} {l : List Int} (h : IsB l) : IsB (wideL n l) := isB_append.mpr ⟨isB_take _ h, isB_drop _ (isB_zeros _)⟩
/-! What desc's functions come to. -/
def refB (d : Int) (r : S27) : Bool := decide (0 ≤ r.f0 ∧ r.f0 < d ∧ 1 ≤ r.f1 ∧ r.f1 ≤ 1073741824)
def refL (l : List S27) : List Int := l.flatMap fun r => beL 2 r.f0 ++ beL 4 r.f1
theorem refL_cons (r : S27) (l : List S27) : refL (r :: l) = beL 2 r.f0 ++ beL 4 r.f1 ++ refL l := rfl
theorem refL_len (l : List S27) : (refL l).length = 6 * l.length := by
  induction l with
  | nil => rfl
  | cons r l ih => rw [refL_cons, List.length_append, List.length_append, beL_len, beL_len, ih, List.length_cons]; omega
theorem refL_isB (l : List S27) : IsB (refL l) := by
  induction l with
  | nil => exact isB_nil
  | cons r l ih => rw [refL_cons]; exact isB_append.mpr ⟨isB_append.mpr ⟨beL_isB _ _, beL_isB _ _⟩, ih⟩
theorem rdRef_nat (l : List S27) (i : Nat) (h : i < l.length) : rd_T27 l (i : Int) = l[i] := by
  unfold rd_T27
  simp [h]
theorem wrap_idx {i : Nat} (h : i < 1000000) : wrap64 ((i : Int) + 1) = ((i + 1 : Nat) : Int) := by unfold wrap64; omega
theorem may_loop (a b c d : Int) (l : List S27) (hl : l.length ≤ 100000) : ∀ (q i k : Nat), i ≤ l.length → l.length - i = q → q < k →
    desc_may.l0 k l (l.length : Int) (i : Int) a b c d = some ((l.drop i).all (refB d)) := by
  intro q
  induction q with
  | zero =>
    intro i k hi hq hk
    obtain ⟨k, rfl⟩ : ∃ m, k = m + 1 := ⟨k - 1, by omega⟩
    simp only [desc_may.l0]
    rw [if_neg (by omega), List.drop_of_length_le (by omega)]
    rfl
  | succ q ih =>
    intro i k hi hq hk
    obtain ⟨k, rfl⟩ : ∃ m, k = m + 1 := ⟨k - 1, by omega⟩
    have hlt : i < l.length := by omega
    simp only [desc_may.l0]
    rw [if_pos (by omega), if_pos (by omega), if_pos (by omega), rdRef_nat l i hlt, List.drop_eq_getElem_cons hlt, List.all_cons, wrap_idx (by omega), ih (i + 1) k (by omega) (by omega) (by omega)]
    by_cases h1 : l[i].f0 < 0
    · rw [if_pos h1, show refB d l[i] = false from by unfold refB; exact decide_eq_false (by omega)]; rfl
    · rw [if_neg h1]
      by_cases h2 : l[i].f0 ≥ d
      · rw [if_pos h2, show refB d l[i] = false from by unfold refB; exact decide_eq_false (by omega)]; rfl
      · rw [if_neg h2]
        by_cases h3 : l[i].f1 < 1
        · rw [if_pos h3, show refB d l[i] = false from by unfold refB; exact decide_eq_false (by omega)]; rfl
        · rw [if_neg h3]
          by_cases h4 : l[i].f1 > 1073741824
          · rw [if_pos h4, show refB d l[i] = false from by unfold refB; exact decide_eq_false (by omega)]; rfl
          · rw [if_neg h4, show refB d l[i] = true from by unfold refB; exact decide_eq_true (by omega)]; rfl
theorem may_ev (a b c d : Int) (l : List S27) (hl : l.length ≤ 100000) (k : Nat) (hk : l.length < k) : desc_may.f k a b c d l = some (l.all (refB d)) := by
  unfold desc_may.f
  exact may_loop a b c d l hl l.length 0 k (by omega) (by omega) hk
theorem shr_ev (x : Int) (n : Nat) (hn : n ≤ 4) : shr .i64 x (8 * (n : Int)) = x / 256 ^ n := by
  unfold shr
  have e : min (8 * (n : Int)).toNat IntKind.i64.bits = 8 * n := by
    rw [show (8 * (n : Int)).toNat = 8 * n by omega]
    exact Nat.min_eq_left (by simp [IntKind.bits]; omega)
  rw [e, Int.pow_mul]
  rfl
theorem told_loop (x : Int) : ∀ (n k : Nat) (l : List Int), n ≤ 4 → n < k → l.length + n ≤ 1000000 →
    desc_told.l0 k l x ((n : Int) - 1) = some (l ++ beL n x) := by
  intro n
  induction n with
  | zero =>
    intro k l hn hk hl
    obtain ⟨k, rfl⟩ : ∃ m, k = m + 1 := ⟨k - 1, by omega⟩
    simp only [desc_told.l0]
    rw [if_neg (by omega)]
    simp [beL]
  | succ n ih =>
    intro k l hn hk hl
    obtain ⟨k, rfl⟩ : ∃ m, k = m + 1 := ⟨k - 1, by omega⟩
    simp only [desc_told.l0]
    rw [show ((n + 1 : Nat) : Int) - 1 = (n : Int) by omega, if_pos (by omega), show wrap64 (8 * (n : Int)) = 8 * (n : Int) from by unfold wrap64; omega, if_pos (by omega), if_pos (by omega), shr_ev x n (by omega), show wrap64 ((n : Int) - 1) = (n : Int) - 1 from by unfold wrap64; omega, ih k _ (by omega) (by omega) (by rw [List.length_append]; simp; omega)]
    simp [beL]
theorem told_ev (x : Int) (n k : Nat) (l : List Int) (hn : n ≤ 4) (hk : n < k) (hl : l.length + n ≤ 1000000) : desc_told.f k l x (n : Int) = some (l ++ beL n x) := by
  unfold desc_told.f
  rw [show wrap64 ((n : Int) - 1) = (n : Int) - 1 from by unfold wrap64; omega]
  exact told_loop x n k l hn hk hl
theorem add_loop (l : List S27) (hl : l.length ≤ 100000) : ∀ (q i k : Nat) (b : List Int), i ≤ l.length → l.length - i = q → q + 5 < k → b.length + 6 * q ≤ 900000 →
    desc_add.l0 k b l (l.length : Int) (i : Int) = some (b ++ refL (l.drop i)) := by
  intro q
  induction q with
  | zero =>
    intro i k b hi hq hk hb
    obtain ⟨k, rfl⟩ : ∃ m, k = m + 1 := ⟨k - 1, by omega⟩
    simp only [desc_add.l0]
    rw [if_neg (by omega), List.drop_of_length_le (by omega)]
    simp [refL]
  | succ q ih =>
    intro i k b hi hq hk hb
    obtain ⟨k, rfl⟩ : ∃ m, k = m + 1 := ⟨k - 1, by omega⟩
    have hlt : i < l.length := by omega
    simp only [desc_add.l0]
    rw [if_pos (by omega), if_pos (by omega), if_pos (by omega), rdRef_nat l i hlt]
    have e1 := told_ev l[i].f0 2 k b (by omega) (by omega) (by omega)
    have e2 := told_ev l[i].f1 4 k (b ++ beL 2 l[i].f0) (by omega) (by omega) (by rw [List.length_append, beL_len]; omega)
    rw [show ((2 : Nat) : Int) = 2 from rfl] at e1
    rw [show ((4 : Nat) : Int) = 4 from rfl] at e2
    rw [e1, Option.bind_some, e2, Option.bind_some, wrap_idx (by omega), ih (i + 1) k _ (by omega) (by omega) (by omega) (by rw [List.length_append, List.length_append, beL_len, beL_len]; omega), List.drop_eq_getElem_cons hlt, refL_cons]
    simp [List.append_assoc]
theorem add_ev (l : List S27) (b : List Int) (k : Nat) (hl : l.length ≤ 100000) (hk : l.length + 5 < k) (hb : b.length + 6 * l.length ≤ 900000) : desc_add.f k b l = some (b ++ refL l) := by
  unfold desc_add.f
  have := add_loop l hl l.length 0 k b (by omega) (by omega) (by omega) hb
  rwa [List.drop_zero] at this
theorem or_join {x y : Int} (hx : 0 ≤ x) (hx2 : x < 16777216) (hy : 0 ≤ y) (hy2 : y < 256) : Go.bits .or .i64 (wrap64 (x * 256)) (wrap64 y) = x * 256 + y := by
  rw [show wrap64 (x * 256) = x * 256 from by unfold wrap64; omega, show wrap64 y = y from by unfold wrap64; omega]
  refine bits_join .i64 62 (by decide) (fun n h0 h1 => ?_) 8 (x * 256) y (by omega) ?_ ?_ hy (by omega) ?_
  · rw [IntKind.wrap_i64]
    have : (2 : Int) ^ 62 = 4611686018427387904 := by decide
    omega
  · show x * 256 % 256 = 0
    omega
  · have : (2 : Int) ^ 62 = 4611686018427387904 := by decide
    omega
  · have : (2 : Int) ^ 62 = 4611686018427387904 := by decide
    omega
theorem number_loop (l : List Int) (hB : IsB l) (hl : l.length ≤ 4) : ∀ (q i k : Nat) (x : Int), i ≤ l.length → l.length - i = q → q < k → 0 ≤ x → x < 256 ^ i →
    desc_number.l0 k x l (l.length : Int) (i : Int) = some ((l.drop i).foldl (fun n c => n * 256 + c) x) := by
  intro q
  induction q with
  | zero =>
    intro i k x hi hq hk h0 h1
    obtain ⟨k, rfl⟩ : ∃ m, k = m + 1 := ⟨k - 1, by omega⟩
    simp only [desc_number.l0]
    rw [if_neg (by omega), List.drop_of_length_le (by omega)]
    rfl
  | succ q ih =>
    intro i k x hi hq hk h0 h1
    obtain ⟨k, rfl⟩ : ∃ m, k = m + 1 := ⟨k - 1, by omega⟩
    have hlt : i < l.length := by omega
    have hb := hB l[i] (List.getElem_mem hlt)
    have hp : (256 : Int) ^ i ≤ 16777216 := by
      have : i = 0 ∨ i = 1 ∨ i = 2 ∨ i = 3 := by omega
      rcases this with h | h | h | h <;> subst h <;> decide
    simp only [desc_number.l0]
    have hr : rd l (i : Int) = l[i] := by unfold rd; simp [hlt]
    rw [if_pos (by omega), if_pos (by omega), if_pos (by omega), hr, or_join h0 (by omega) hb.1 hb.2, wrap_idx (by omega), List.drop_eq_getElem_cons hlt, List.foldl_cons]
    refine ih (i + 1) k _ (by omega) (by omega) (by omega) (by omega) ?_
    rw [Int.pow_succ]
    omega
theorem number_ev (l : List Int) (hB : IsB l) (hl : l.length ≤ 4) (k : Nat) (hk : l.length < k) : desc_number.f k l = some (numL l) := by
  unfold desc_number.f
  have := number_loop l hB hl l.length 0 k 0 (by omega) (by omega) hk (by omega) (by simp)
  rwa [List.drop_zero] at this
/-- So many refs, out of bytes. -/
def readL : Nat → List Int → List S27
  | 0, _ => []
  | n + 1, b => (⟨numL (b.take 2), numL ((b.take 6).drop 2)⟩ : S27) :: readL n (b.drop 6)
theorem readL_len : ∀ (n : Nat) (b : List Int), (readL n b).length = n
  | 0, _ => rfl
  | n + 1, b => by simp [readL, readL_len n]
theorem read_loop : ∀ (q : Nat) (b : List Int) (acc : List S27) (N i : Int) (k : Nat), IsB b → 6 * q ≤ b.length → 0 ≤ i → N - i = q → N ≤ 100000 → (acc.length : Int) ≤ i → q + 5 < k →
    desc_read.l0 k b acc N i = some (acc ++ readL q b) := by
  intro q
  induction q with
  | zero =>
    intro b acc N i k hB hb h0 hN hN2 ha hk
    obtain ⟨k, rfl⟩ : ∃ m, k = m + 1 := ⟨k - 1, by omega⟩
    simp only [desc_read.l0]
    rw [if_neg (by omega)]
    simp [readL]
  | succ q ih =>
    intro b acc N i k hB hb h0 hN hN2 ha hk
    obtain ⟨k, rfl⟩ : ∃ m, k = m + 1 := ⟨k - 1, by omega⟩
    simp only [desc_read.l0]
    rw [if_pos (by omega), if_pos (by omega), number_ev _ (isB_take 2 hB) (by rw [List.length_take]; omega) k (by rw [List.length_take]; omega), Option.bind_some, if_pos (by omega), if_pos (by omega),
      number_ev _ (isB_drop 2 (isB_take 6 hB)) (by rw [List.length_drop, List.length_take]; omega) k (by rw [List.length_drop, List.length_take]; omega), Option.bind_some, if_pos (by omega),
      show wrap64 (i + 1) = i + 1 from by unfold wrap64; omega, ih (b.drop 6) _ N (i + 1) k (isB_drop 6 hB) (by rw [List.length_drop]; omega) (by omega) (by omega) hN2 (by rw [List.length_append]; simp; omega) (by omega)]
    simp [readL, List.append_assoc]
theorem read_ev (b : List Int) (n : Nat) (k : Nat) (hB : IsB b) (hb : 6 * n ≤ b.length) (hn : n ≤ 100000) (hk : n + 5 < k) : desc_read.f k b (n : Int) = some (readL n b) := by
  unfold desc_read.f
  exact read_loop n b [] (n : Int) 0 k hB hb (by omega) (by omega) (by omega) (by simp) hk
theorem readL_refL (d : Int) (hd : d ≤ 65536) : ∀ (l : List S27) (z : List Int), l.all (refB d) = true → readL l.length (refL l ++ z) = l := by
  intro l
  induction l with
  | nil => intro z _; rfl
  | cons r l ih =>
    intro z h
    rw [List.all_cons, Bool.and_eq_true] at h
    have hr : 0 ≤ r.f0 ∧ r.f0 < d ∧ 1 ≤ r.f1 ∧ r.f1 ≤ 1073741824 := by simpa [refB] using h.1
    have e : refL (r :: l) ++ z = beL 2 r.f0 ++ (beL 4 r.f1 ++ (refL l ++ z)) := by rw [refL_cons]; simp [List.append_assoc]
    have t1 : (beL 2 r.f0 ++ (beL 4 r.f1 ++ (refL l ++ z))).take 2 = beL 2 r.f0 := by
      rw [List.take_append_of_le_length (by rw [beL_len]; omega), List.take_of_length_le (by rw [beL_len]; omega)]
    have t2 : ((beL 2 r.f0 ++ (beL 4 r.f1 ++ (refL l ++ z))).take 6).drop 2 = beL 4 r.f1 := by
      rw [← List.append_assoc, List.take_append_of_le_length (by rw [List.length_append, beL_len, beL_len]; omega), List.take_of_length_le (by rw [List.length_append, beL_len, beL_len]; omega), List.drop_append_of_le_length (by rw [beL_len]; omega), List.drop_of_length_le (by rw [beL_len]; omega)]
      rfl
    have t3 : (beL 2 r.f0 ++ (beL 4 r.f1 ++ (refL l ++ z))).drop 6 = refL l ++ z := by
      rw [← List.append_assoc]
      have hl : 6 = (beL 2 r.f0 ++ beL 4 r.f1).length := by rw [List.length_append, beL_len, beL_len]
      rw [hl, List.drop_left]
    rw [e, List.length_cons, readL, t1, t2, t3, ih z h.2, numL_2 hr.1 (by omega), numL_4 (by omega) (by omega)]
theorem readL_take : ∀ (n : Nat) (b : List Int), True := fun _ _ => trivial
theorem eqB_ev {l m : List Int} (hl : IsB l) (hm : IsB m) : bytes_Equal.f l m = some (decide (l = m)) := by
  unfold bytes_Equal.f
  rw [strL_eq hl hm]
/-- Has a descriptor the depth and the number of refs that its length needs, and may its refs be? -/
def fitB (a b c d len dep : Int) (l : List S27) : Bool :=
  decide (lenE a b c d len = 0 ∧ min (objL (a * c) len) 1 = dep ∧ (l.length : Int) = if dep = 1 then objL (a * c) len else objS (a * c) len) && l.all (refB d)
def chkE (a b c d len dep : Int) (l : List S27) : Int := if okP a b c d = true then (if fitB a b c d len dep l = true then 0 else 150) else 2
def descL (len dep : Int) (l : List S27) : List Int := beL 4 len ++ beL 1 dep ++ beL 2 (l.length : Int) ++ refL l
theorem descL_len (len dep : Int) (l : List S27) : (descL len dep l).length = 7 + 6 * l.length := by
  unfold descL
  rw [List.length_append, List.length_append, List.length_append, beL_len, beL_len, beL_len, refL_len]
theorem descL_isB (len dep : Int) (l : List S27) : IsB (descL len dep l) := by
  unfold descL
  exact isB_append.mpr ⟨isB_append.mpr ⟨isB_append.mpr ⟨beL_isB _ _, beL_isB _ _⟩, beL_isB _ _⟩, refL_isB _⟩
theorem fitB_iff {a b c d len dep : Int} {l : List S27} : fitB a b c d len dep l = true ↔ (lenE a b c d len = 0 ∧ min (objL (a * c) len) 1 = dep ∧ (l.length : Int) = if dep = 1 then objL (a * c) len else objS (a * c) len) ∧ l.all (refB d) = true := by
  unfold fitB
  rw [Bool.and_eq_true, decide_eq_true_iff]
theorem fitB_no {a b c d len dep : Int} {l : List S27} (h : ¬ (lenE a b c d len = 0 ∧ min (objL (a * c) len) 1 = dep ∧ (l.length : Int) = if dep = 1 then objL (a * c) len else objS (a * c) len)) : fitB a b c d len dep l = false := by
  unfold fitB
  rw [decide_eq_false h]
  rfl
theorem fitB_all {a b c d len dep : Int} {l : List S27} (h : l.all (refB d) = false) : fitB a b c d len dep l = false := by
  unfold fitB
  rw [h, Bool.and_false]
theorem Check_ev (a b c d len dep : Int) (l : List S27) (k : Nat) (hl : l.length ≤ 100000) (hk : l.length + 3 < k) : desc_Check.f k a b c d len dep l = some (chkE a b c d len dep l) := by
  unfold desc_Check.f chkE
  rw [show layout_Check.f a b c d = some (if okP a b c d = true then 0 else 2) from rfl, Option.bind_some]
  by_cases hk1 : okP a b c d = true
  · rw [if_pos hk1, if_pos rfl, if_pos hk1, Depth_ev, Option.bind_some]
    obtain ⟨k, rfl⟩ : ∃ m, k = m + 2 := ⟨k - 2, by omega⟩
    by_cases he : lenE a b c d len = 0
    · rw [if_pos he]
      dsimp only
      rw [if_pos rfl]
      simp only [desc_Check.j0]
      by_cases hd : min (objL (a * c) len) 1 = dep
      · rw [if_neg (by simpa using hd)]
        have hb := objB he
        have hmay := may_ev a b c d l hl
        have fin : ∀ n : Int, (n = if dep = 1 then objL (a * c) len else objS (a * c) len) → ∀ q : Nat, l.length < q →
            (if n = (l.length : Int) then (desc_may.f q a b c d l).bind fun t => (if t = true then some (0 : Int) else some 150) else some 150) = some (if fitB a b c d len dep l = true then 0 else 150) := by
          intro n hn q hq
          by_cases h1 : n = (l.length : Int)
          · rw [if_pos h1, hmay q hq, Option.bind_some]
            by_cases h2 : l.all (refB d) = true
            · rw [if_pos h2, if_pos (fitB_iff.mpr ⟨⟨he, hd, by rw [← hn, h1]⟩, h2⟩)]
            · have h2' : l.all (refB d) = false := by simpa using h2
              rw [if_neg h2, if_neg (by rw [fitB_all h2']; decide)]
          · rw [if_neg h1, if_neg (by rw [fitB_no (fun h => h1 (by rw [hn, h.2.2]))]; decide)]
        by_cases hd1 : dep = 1
        · rw [if_pos hd1, Leaves_ev, if_pos he, Option.bind_some]
          dsimp only
          by_cases h1 : objL (a * c) len = (l.length : Int)
          · rw [if_pos h1]
            simp only [desc_Check.j1]
            rw [if_neg (by omega), if_pos trivial]
            have f := fin (l.length : Int) (by rw [if_pos hd1, h1]) k (by omega)
            rw [if_pos rfl] at f
            rw [if_pos trivial]
            exact f
          · rw [if_neg h1, if_neg (by rw [fitB_no (fun h => h1 (by rw [h.2.2, if_pos hd1]))]; decide)]
        · rw [if_neg hd1]
          simp only [desc_Check.j1]
          rw [if_pos (by omega), Stripes_ev, if_pos he, Option.bind_some]
          dsimp only
          rw [if_pos rfl]
          exact fin _ (by rw [if_neg hd1]) k (by omega)
      · rw [if_pos (by simpa using hd), if_neg (by rw [fitB_no (fun h => hd h.2.1)]; decide)]
    · rw [if_neg he]
      dsimp only
      rw [if_neg he]
      simp only [desc_Check.j0]
      rw [if_pos trivial, if_neg (by rw [fitB_no (fun h => he h.1)]; decide)]
  · rw [if_neg hk1, if_neg (by omega), if_neg hk1]
theorem fit_room {a b c d len dep : Int} {l : List S27} (h : fitB a b c d len dep l = true) : okP a b c d = true ∧ 0 ≤ len ∧ len ≤ 32768 ∧ (dep = 0 ∨ dep = 1) ∧ 7 + 6 * (l.length : Int) ≤ a * c ∧ l.length ≤ 130 := by
  obtain ⟨⟨h1, h2, h3⟩, h4⟩ := fitB_iff.mp h
  obtain ⟨hk, h0, hm⟩ := lenE_zero h1
  have hw := okW hk
  have hml := mostOf_le (a * c)
  have hb := objB h1
  have hL := objL_fits h1
  refine ⟨hk, h0, by omega, by omega, ?_⟩
  have : (l.length : Int) ≤ (a * c - 7) / 6 := by
    rw [h3]
    split
    · exact hL
    · exact objS_fits h1 (by omega)
  omega
/-- A descriptor's bytes. -/
def bytesD (a c len dep : Int) (l : List S27) : List Int := wideL (a * c).toNat (descL len dep l)
theorem Bytes_ev (a b c d len dep : Int) (l : List S27) (k : Nat) (hl : l.length ≤ 100000) (hk : l.length + 10 < k) : desc_Bytes.f k a b c d len dep l = some (if chkE a b c d len dep l = 0 then (bytesD a c len dep l, 0) else ([], chkE a b c d len dep l)) := by
  unfold desc_Bytes.f
  rw [Check_ev a b c d len dep l k hl (by omega), Option.bind_some]
  by_cases h0 : chkE a b c d len dep l = 0
  · rw [if_pos h0, if_pos h0]
    have hf : fitB a b c d len dep l = true := by
      unfold chkE at h0
      by_cases h1 : okP a b c d = true
      · rw [if_pos h1] at h0
        by_cases h2 : fitB a b c d len dep l = true
        · exact h2
        · rw [if_neg h2] at h0; omega
      · rw [if_neg h1] at h0; omega
    obtain ⟨hk1, g0, g1, g2, g3, g4⟩ := fit_room hf
    have e1 := told_ev len 4 k [] (by omega) (by omega) (by simp)
    have e2 := told_ev dep 1 k ([] ++ beL 4 len) (by omega) (by omega) (by simp [beL_len])
    have e3 := told_ev (l.length : Int) 2 k ([] ++ beL 4 len ++ beL 1 dep) (by omega) (by omega) (by simp [beL_len])
    rw [show ((4 : Nat) : Int) = 4 from rfl] at e1
    rw [show ((1 : Nat) : Int) = 1 from rfl] at e2
    rw [show ((2 : Nat) : Int) = 2 from rfl] at e3
    rw [e1, Option.bind_some, e2, Option.bind_some, e3, Option.bind_some, add_ev l _ k hl (by omega) (by simp [beL_len]; omega), Option.bind_some]
    unfold desc_wide.f
    rw [if_pos hk1]
    rfl
  · rw [if_neg h0, if_neg h0]
theorem chkE_zero {a b c d len dep : Int} {l : List S27} : chkE a b c d len dep l = 0 ↔ fitB a b c d len dep l = true := by
  unfold chkE
  constructor
  · intro h0
    by_cases h1 : okP a b c d = true
    · rw [if_pos h1] at h0
      by_cases h2 : fitB a b c d len dep l = true
      · exact h2
      · rw [if_neg h2] at h0; omega
    · rw [if_neg h1] at h0; omega
  · intro h
    rw [if_pos (fit_room h).1, if_pos h]
theorem sized_ev (a b c d : Int) (x : List Int) : desc_sized.f a b c d x = some (if okP a b c d = true then (if (x.length : Int) = a * c then 0 else 20) else 2) := by
  unfold desc_sized.f
  rw [show layout_Width.f a b c d = some (if okP a b c d = true then (a * c, 0) else (0, 2)) from rfl, Option.bind_some]
  by_cases hk : okP a b c d = true
  · rw [if_pos hk, if_pos hk]
    dsimp only
    rw [if_pos rfl]
    split <;> rfl
  · rw [if_neg hk, if_neg hk]
    dsimp only
    rw [if_neg (by omega)]
/-- What is read of bytes: the length, the depth, the refs' number, the refs. -/
def rLen (x : List Int) : Int := numL (x.take 4)
def rDep (x : List Int) : Int := numL ((x.take 5).drop 4)
def rNum (x : List Int) : Int := numL ((x.take 7).drop 5)
def rRefs (x : List Int) : List S27 := readL (rNum x).toNat (x.drop 7)
theorem numL_bd2 {l : List Int} (hB : IsB l) (hl : l.length ≤ 2) : 0 ≤ numL l ∧ numL l < 65536 := by
  unfold numL
  match l, hl with
  | [], _ => simp
  | [x], _ => have := hB x (by simp); simp; omega
  | [x, y], _ => have := hB x (by simp); have := hB y (by simp); simp; omega
def parseOK (a b c d : Int) (x : List Int) : Prop := 7 + 6 * rNum x ≤ (x.length : Int) ∧ fitB a b c d (rLen x) (rDep x) (rRefs x) = true ∧ bytesD a c (rLen x) (rDep x) (rRefs x) = x
theorem Parse_ev (a b c d : Int) (x : List Int) (k : Nat) (hB : IsB x) (hk : 70000 < k) : desc_Parse.f k a b c d x =
    some (if okP a b c d = true then (if (x.length : Int) = a * c then (if 7 + 6 * rNum x ≤ (x.length : Int) ∧ fitB a b c d (rLen x) (rDep x) (rRefs x) = true ∧ bytesD a c (rLen x) (rDep x) (rRefs x) = x then (rLen x, rDep x, rRefs x, 0) else (0, 0, [], 150)) else (0, 0, [], 20)) else (0, 0, [], 2)) := by
  unfold desc_Parse.f
  rw [sized_ev, Option.bind_some]
  by_cases hk1 : okP a b c d = true
  · have hw := okW hk1
    rw [if_pos hk1, if_pos hk1]
    by_cases hx : (x.length : Int) = a * c
    · rw [if_pos hx, if_pos rfl, if_pos hx, if_pos (by omega),
        number_ev _ (isB_take 4 hB) (by rw [List.length_take]; omega) k (by rw [List.length_take]; omega), Option.bind_some, if_pos (by omega), if_pos (by omega),
        number_ev _ (isB_drop 4 (isB_take 5 hB)) (by rw [List.length_drop, List.length_take]; omega) k (by rw [List.length_drop, List.length_take]; omega), Option.bind_some, if_pos (by omega), if_pos (by omega),
        number_ev _ (isB_drop 5 (isB_take 7 hB)) (by rw [List.length_drop, List.length_take]; omega) k (by rw [List.length_drop, List.length_take]; omega), Option.bind_some]
      have hn := numL_bd2 (isB_drop 5 (isB_take 7 hB)) (by rw [List.length_drop, List.length_take]; omega)
      show (if wrap64 (7 + wrap64 (6 * rNum x)) > (x.length : Int) then some ((0 : Int), (0 : Int), ([] : List S27), (150 : Int)) else (desc_read.f k (x.drop 7) (rNum x)).bind fun t233 => ((desc_Bytes.f k a b c d (rLen x) (rDep x) t233).bind fun bt236 => (if bt236.2 = 0 then ((bytes_Equal.f bt236.1 x).bind fun t240 => (if t240 = true then (some (rLen x, rDep x, t233, 0)) else (some (0, 0, ([] : List S27), 150)))) else (some (0, 0, ([] : List S27), 150))))) = _
      have hn' : 0 ≤ rNum x ∧ rNum x < 65536 := hn
      rw [show wrap64 (7 + wrap64 (6 * rNum x)) = 7 + 6 * rNum x from by rw [show wrap64 (6 * rNum x) = 6 * rNum x from by unfold wrap64; omega]; unfold wrap64; omega]
      by_cases h7 : 7 + 6 * rNum x > (x.length : Int)
      · rw [if_pos h7, if_neg (fun h => by omega)]
      · rw [if_neg h7]
        have hrd := read_ev (x.drop 7) (rNum x).toNat k (isB_drop 7 hB) (by rw [List.length_drop]; omega) (by omega) (by omega)
        rw [show (((rNum x).toNat : Nat) : Int) = rNum x by omega] at hrd
        rw [hrd, Option.bind_some]
        have hlen : (rRefs x).length = (rNum x).toNat := readL_len _ _
        rw [show readL (rNum x).toNat (x.drop 7) = rRefs x from rfl, Bytes_ev a b c d (rLen x) (rDep x) (rRefs x) k (by omega) (by omega), Option.bind_some]
        by_cases hf : fitB a b c d (rLen x) (rDep x) (rRefs x) = true
        · rw [if_pos (chkE_zero.mpr hf)]
          dsimp only
          rw [if_pos rfl, eqB_ev (show IsB (bytesD a c (rLen x) (rDep x) (rRefs x)) from wideL_isB (descL_isB _ _ _)) hB, Option.bind_some]
          by_cases he : bytesD a c (rLen x) (rDep x) (rRefs x) = x
          · rw [if_pos (decide_eq_true he), if_pos ⟨by omega, hf, he⟩]
          · rw [if_neg (by simpa using he), if_neg (fun h => he h.2.2)]
        · have h0 : ¬ chkE a b c d (rLen x) (rDep x) (rRefs x) = 0 := fun h => hf (chkE_zero.mp h)
          rw [if_neg h0]
          dsimp only
          rw [if_neg h0, if_neg (fun h => hf h.2.1)]
    · rw [if_neg hx, if_neg (by omega), if_neg hx]
  · rw [if_neg hk1, if_neg (by omega), if_neg hk1]
/-- What was written is read. -/
theorem read_back {a b c d len dep : Int} {l : List S27} (h : fitB a b c d len dep l = true) :
    ((bytesD a c len dep l).length : Int) = a * c ∧ rLen (bytesD a c len dep l) = len ∧ rDep (bytesD a c len dep l) = dep ∧ rNum (bytesD a c len dep l) = (l.length : Int) ∧ rRefs (bytesD a c len dep l) = l := by
  obtain ⟨hk, g0, g1, g2, g3, g4⟩ := fit_room h
  have hw := okW hk
  have hall := (fitB_iff.mp h).2
  obtain ⟨o1, o2, o3, o4, o5, o6, o7, o8, o9⟩ := okP_iff.mp hk
  have hlen : (bytesD a c len dep l).length = (a * c).toNat := wideL_len _ _
  have hb : bytesD a c len dep l = descL len dep l ++ List.replicate ((a * c).toNat - (descL len dep l).length) 0 := wideL_fits (by rw [descL_len]; omega)
  have e : bytesD a c len dep l = beL 4 len ++ (beL 1 dep ++ (beL 2 (l.length : Int) ++ (refL l ++ List.replicate ((a * c).toNat - (descL len dep l).length) 0))) := by
    rw [hb]
    conv => lhs; unfold descL
    simp only [List.append_assoc]
    rfl
  generalize List.replicate ((a * c).toNat - (descL len dep l).length) (0 : Int) = z at e
  have n4 : (beL 4 len).length = 4 := beL_len _ _
  have n1 : (beL 1 dep).length = 1 := beL_len _ _
  have n2 : (beL 2 (l.length : Int)).length = 2 := beL_len _ _
  have t4 : (bytesD a c len dep l).take 4 = beL 4 len := by
    rw [e, List.take_append_of_le_length (by omega), List.take_of_length_le (by omega)]
  have t5 : ((bytesD a c len dep l).take 5).drop 4 = beL 1 dep := by
    rw [e, ← List.append_assoc, List.take_append_of_le_length (by rw [List.length_append]; omega), List.take_of_length_le (by rw [List.length_append]; omega), List.drop_append_of_le_length (by omega), List.drop_of_length_le (by omega)]
    rfl
  have t7 : ((bytesD a c len dep l).take 7).drop 5 = beL 2 (l.length : Int) := by
    rw [e, ← List.append_assoc, ← List.append_assoc, List.take_append_of_le_length (by simp only [List.length_append]; omega), List.take_of_length_le (by simp only [List.length_append]; omega), List.drop_append_of_le_length (by rw [List.length_append]; omega), List.drop_of_length_le (by rw [List.length_append]; omega)]
    rfl
  have d7 : (bytesD a c len dep l).drop 7 = refL l ++ z := by
    rw [e, ← List.append_assoc, ← List.append_assoc]
    have : 7 = (beL 4 len ++ beL 1 dep ++ beL 2 (l.length : Int)).length := by simp only [List.length_append]; omega
    rw [this, List.drop_left]
  have r3 : rNum (bytesD a c len dep l) = (l.length : Int) := by unfold rNum; rw [t7]; exact numL_2 (by omega) (by omega)
  refine ⟨by rw [hlen]; omega, ?_, ?_, r3, ?_⟩
  · unfold rLen; rw [t4]; exact numL_4 g0 (by omega)
  · unfold rDep; rw [t5]; exact numL_1 (by omega) (by omega)
  · unfold rRefs; rw [r3, d7, show ((l.length : Int)).toNat = l.length by omega]; exact readL_refL d (by omega) l z hall
end Go.Proofs.Ytdpllcmpndcbnaa.P
