import Derived.Test.YtcnmocbiekfpbaaPx0
import Derived.Test.YtcnmocbiekfpbaaPx4
import Derived.Test.YtcnmocbiekfpbaaWApart
import Derived.Test.YtcnmocbiekfpbaaWKept
namespace Go.Proofs.Ytcnmocbiekfpbaa.P
open Go.RowKit Go.Proofs.YtcnmocbiekfpbaaW.PrintWords Go.Proofs.YtcnmocbiekfpbaaW.PrintLast Go.Proofs.YtcnmocbiekfpbaaW.PrintMore
attribute [local go_sem] max2_int min2_int max_two min_two max_three min_three max_four min_four
set_option linter.unusedVariables false
set_option linter.unusedSimpArgs false
/-! ### Pairs of slices that lie apart -/
/-- A pair whose two slices share no block. -/
def kp59 : Kd S59 where
  sz := k59.sz
  E := k59.E
  K := k59.K
  M := fun w base ok x cs => ∃ (v0 v1 : Value) (ok0 ok1 : Nat → Prop), cs = [v0, v1] ∧ (Kd.int .u8).R 5 w base ok0 v0 x.f0 ∧ (Kd.int .u8).R 5 w base ok1 v1 x.f1 ∧ (∀ k, ok0 k → ok k) ∧ (∀ k, ok1 k → ok k) ∧ ∀ k, ok0 k → ¬ ok1 k
  K_len := k59.K_len
  K_one := k59.K_one
  K_below := k59.K_below
  K_of_M := by
    rintro w base ok x cs ⟨v0, v1, ok0, ok1, rfl, h0, h1, l0, l1, _⟩
    exact k59.K_of_M (k59_mkM w base ok x (Kd.R_mono h0 l0) (Kd.R_mono h1 l1))
  M_mono := by
    rintro w base ok ok' x cs hok ⟨v0, v1, ok0, ok1, rfl, h0, h1, l0, l1, d⟩
    exact ⟨v0, v1, ok0, ok1, rfl, h0, h1, fun k hk => hok k (l0 k hk), fun k hk => hok k (l1 k hk), d⟩
  M_bound := by
    rintro w base ok x cs ⟨v0, v1, ok0, ok1, rfl, h0, h1, l0, l1, d⟩
    refine ⟨v0, v1, _, _, rfl, Kd.R_bound h0, Kd.R_bound h1, ?_, ?_, fun k hk hk2 => d k hk.1 hk2.1⟩
    · rintro k ⟨hk, hb, hl, q, hq, hc⟩
      exact ⟨l0 k hk, hb, hl, q, List.mem_append_left _ hq, hc⟩
    · rintro k ⟨hk, hb, hl, q, hq, hc⟩
      exact ⟨l1 k hk, hb, hl, q, List.mem_append_left _ hq, hc⟩
  M_move := by
    rintro w w1 base ok x cs hm ⟨v0, v1, ok0, ok1, rfl, h0, h1, l0, l1, d⟩
    exact ⟨v0, v1, ok0, ok1, rfl, Kd.R_move h0 (fun k hk => hm k (l0 k hk)), Kd.R_move h1 (fun k hk => hm k (l1 k hk)), l0, l1, d⟩
  M_lower := by
    rintro w base base' ok x cs hb ⟨v0, v1, ok0, ok1, rfl, h0, h1, l0, l1, d⟩
    exact ⟨v0, v1, ok0, ok1, rfl, Kd.R_lower h0 hb, Kd.R_lower h1 hb, l0, l1, d⟩
theorem R_of_kp {e base : Nat} {w : World} {ok : Nat → Prop} {v : Value} {xs : List S59} (h : kp59.R e w base ok v xs) : k59.R e w base ok v xs := by
  refine ⟨h.1, h.2.imp_ (fun x c hp => ?_)⟩
  obtain ⟨v0, v1, ok0, ok1, rfl, h0, h1, l0, l1, _⟩ := hp
  exact k59_mkM _ _ _ _ (Kd.R_mono h0 l0) (Kd.R_mono h1 l1)
/-- The rows of pairs, one by one. -/
def row2 (xs : List S59) (m : Nat) : List Int := if m % 2 = 0 then (xs.getD (m / 2) z59).f0 else (xs.getD (m / 2) z59).f1
theorem add9 (g j : Nat) : (⟨g, 0, none⟩ : Addr).add j = ⟨g, j, none⟩ := by
  unfold Addr.add
  by_cases hj0 : j = 0
  · subst hj0; simp
  · rw [if_neg hj0]; simp
theorem tag_get {α : Type} {d : Kd α} {e base g n cap : Nat} {ok : Nat → Prop} {W : World} {xs : List α} {f : Nat → Nat} (z : α) (h : (Kd.tag f d).R e W base ok (.slice (some ⟨g, 0, none⟩) n cap) xs.zipIdx) (j : Nat) (hj : j < n) :
    ∃ c, d.M W base (fun k => (ok k ∧ some k ≠ (Value.slice (some ⟨g, 0, none⟩) n cap).ownBlock) ∧ f k = j) (xs.getD j z) c ∧ ∀ i u, c[i]? = some u → W.cell? ⟨g, j * d.sz + i, none⟩ = some u := by
  have hn := (Kd.R_reads' h).1
  rw [List.length_zipIdx] at hn
  obtain ⟨c, hcl, hM, hcc⟩ := Kd.R_getA h (z, j) (j : Int) (by omega) (by omega)
  have e1 : xs.zipIdx.getD ((j : Int).toNat) (z, j) = (xs.getD j z, j) := by
    rw [Int.toNat_natCast, List.getD_eq_getElem?_getD, List.getElem?_zipIdx, List.getD_eq_getElem?_getD]
    cases xs[j]? <;> simp
  rw [e1] at hM
  refine ⟨c, hM, fun i u hu => ?_⟩
  have := hcc i u hu
  rw [Int.toNat_natCast, add9] at this
  exact this
/-- Pairs' slices, laid open. -/
theorem P_split {base g n cap : Nat} {ok : Nat → Prop} {W : World} {xs : List S59} (h : Kd.S kp59 59 W base ok (.slice (some ⟨g, 0, none⟩) n cap) xs) :
    ∃ (okj : Nat → Nat → Prop) (vs : Nat → Value), (∀ j, j < 2 * n → W.cell? ⟨g, j, none⟩ = some (vs j)) ∧ (∀ j, j < 2 * n → (Kd.int .u8).R 5 W base (okj j) (vs j) (row2 xs j)) ∧ (∀ j k, okj j k → ok k ∧ k ≠ g ∧ k < W.heap.size) ∧ (∀ i j k, okj i k → okj j k → i = j) := by
  obtain ⟨f, hR⟩ := Kd.S_bound h
  have key : ∀ j, ∃ o : (Nat → Prop) × (Nat → Prop) × Value × Value, j < n → W.cell? ⟨g, 2 * j, none⟩ = some o.2.2.1 ∧ W.cell? ⟨g, 2 * j + 1, none⟩ = some o.2.2.2 ∧ (Kd.int .u8).R 5 W base o.1 o.2.2.1 (xs.getD j z59).f0 ∧ (Kd.int .u8).R 5 W base o.2.1 o.2.2.2 (xs.getD j z59).f1 ∧
      (∀ k, o.1 k → ok k ∧ k ≠ g ∧ k < W.heap.size ∧ f k = j) ∧ (∀ k, o.2.1 k → ok k ∧ k ≠ g ∧ k < W.heap.size ∧ f k = j) ∧ ∀ k, o.1 k → ¬ o.2.1 k := by
    intro j
    by_cases hj : j < n
    · obtain ⟨c, hM, hcc⟩ := tag_get z59 hR j hj
      obtain ⟨v0, v1, ok0, ok1, rfl, h0, h1, l0, l1, d⟩ := hM
      have hsz : kp59.sz = 2 := rfl
      rw [hsz] at hcc
      have c0 := hcc 0 v0 rfl
      have c1 := hcc 1 v1 rfl
      rw [show j * 2 + 0 = 2 * j by omega] at c0
      rw [show j * 2 + 1 = 2 * j + 1 by omega] at c1
      exact ⟨(ok0, ok1, v0, v1), fun _ => ⟨c0, c1, h0, h1, fun k hk => ⟨(l0 k hk).1.1.1, fun e => (l0 k hk).1.2 (by rw [e]; rfl), (l0 k hk).1.1.2.2.1, (l0 k hk).2⟩, fun k hk => ⟨(l1 k hk).1.1.1, fun e => (l1 k hk).1.2 (by rw [e]; rfl), (l1 k hk).1.1.2.2.1, (l1 k hk).2⟩, d⟩⟩
    · exact ⟨(fun _ => True, fun _ => True, .bool true, .bool true), fun h => absurd h hj⟩
  obtain ⟨F, hF⟩ := Classical.skolem.mp key
  refine ⟨fun m k => m / 2 < n ∧ (if m % 2 = 0 then (F (m / 2)).1 k else (F (m / 2)).2.1 k), fun m => if m % 2 = 0 then (F (m / 2)).2.2.1 else (F (m / 2)).2.2.2, fun m hm => ?_, fun m hm => ?_, fun m k hk => ?_, fun i j k hi hj => ?_⟩
  · obtain ⟨c0, c1, _⟩ := hF (m / 2) (by omega)
    dsimp only
    by_cases h2 : m % 2 = 0
    · rw [if_pos h2, ← c0, show 2 * (m / 2) = m by omega]
    · rw [if_neg h2, ← c1, show 2 * (m / 2) + 1 = m by omega]
  · obtain ⟨_, _, r0, r1, _⟩ := hF (m / 2) (by omega)
    have hlt : m / 2 < n := by omega
    unfold row2
    dsimp only
    by_cases h2 : m % 2 = 0
    · rw [if_pos h2, if_pos h2]
      exact Kd.R_mono r0 (fun k hk => ⟨hlt, by rw [if_pos h2]; exact hk⟩)
    · rw [if_neg h2, if_neg h2]
      exact Kd.R_mono r1 (fun k hk => ⟨hlt, by rw [if_neg h2]; exact hk⟩)
  · obtain ⟨_, _, _, _, l0, l1, _⟩ := hF (m / 2) hk.1
    have h3 := hk.2
    by_cases h2 : m % 2 = 0
    · rw [if_pos h2] at h3
      exact ⟨(l0 k h3).1, (l0 k h3).2.1, (l0 k h3).2.2.1⟩
    · rw [if_neg h2] at h3
      exact ⟨(l1 k h3).1, (l1 k h3).2.1, (l1 k h3).2.2.1⟩
  · have own : ∀ m, (m / 2 < n ∧ (if m % 2 = 0 then (F (m / 2)).1 k else (F (m / 2)).2.1 k)) → f k = m / 2 := by
      intro m hk
      obtain ⟨_, _, _, _, l0, l1, _⟩ := hF (m / 2) hk.1
      have h3 := hk.2
      by_cases h2 : m % 2 = 0
      · rw [if_pos h2] at h3; exact (l0 k h3).2.2.2
      · rw [if_neg h2] at h3; exact (l1 k h3).2.2.2
    have e1 := own i hi
    have e2 := own j hj
    have e3 : i / 2 = j / 2 := by omega
    obtain ⟨_, _, _, _, _, _, d⟩ := hF (i / 2) hi.1
    have hi2 := hi.2
    have hj2 := hj.2
    rw [← e3] at hj2
    by_cases a : i % 2 = 0
    · rw [if_pos a] at hi2
      by_cases b : j % 2 = 0
      · omega
      · rw [if_neg b] at hj2
        exact absurd hj2 (d k hi2)
    · rw [if_neg a] at hi2
      by_cases b : j % 2 = 0
      · rw [if_pos b] at hj2
        exact absurd hi2 (d k hj2)
      · omega
/-- Raw writes' slices, laid open. -/
theorem D_split {base g n cap : Nat} {ok : Nat → Prop} {W : World} {xs : List S35} (h : Kd.S k35 35 W base ok (.slice (some ⟨g, 0, none⟩) n cap) xs) :
    ∃ (okj : Nat → Nat → Prop) (vs : Nat → Value), (∀ j, j < n → W.cell? ⟨g, j * 4 + 3, none⟩ = some (vs j)) ∧ (∀ j, j < n → (Kd.int .u8).R 5 W base (okj j) (vs j) (xs.getD j z35).f3) ∧ (∀ j k, okj j k → ok k ∧ k ≠ g ∧ k < W.heap.size) ∧ (∀ i j k, okj i k → okj j k → i = j) := by
  obtain ⟨f, hR⟩ := Kd.S_bound h
  have key : ∀ j, ∃ v : Value, j < n → W.cell? ⟨g, j * 4 + 3, none⟩ = some v ∧ (Kd.int .u8).R 5 W base (fun k => ((ok k ∧ base ≤ k ∧ k < W.heap.size ∧ ∃ q, q ∈ 35 :: k35.E ∧ ∃ cells, W.heap[k]? = some (.cells cells q (0, 0))) ∧ some k ≠ (Value.slice (some ⟨g, 0, none⟩) n cap).ownBlock) ∧ f k = j) v (xs.getD j z35).f3 := by
    intro j
    by_cases hj : j < n
    · obtain ⟨c, hM, hcc⟩ := tag_get z35 hR j hj
      obtain ⟨v3, rfl, h3⟩ := k35_openM hM
      have hsz : k35.sz = 4 := rfl
      rw [hsz] at hcc
      exact ⟨v3, fun _ => ⟨hcc 3 v3 rfl, h3⟩⟩
    · exact ⟨.bool true, fun h => absurd h hj⟩
  obtain ⟨vs, hvs⟩ := Classical.skolem.mp key
  exact ⟨_, vs, fun j hj => (hvs j hj).1, fun j hj => (hvs j hj).2, fun j k hk => ⟨hk.1.1.1, fun e => hk.1.2 (by rw [e]; rfl), hk.1.1.2.2.1⟩, fun i j k hi hj => hi.2.symm.trans hj.2⟩
end Go.Proofs.Ytcnmocbiekfpbaa.P
