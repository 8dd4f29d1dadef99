import Derived.Test.YtcnmocbiekfpbaaP0Opens
import Derived.SizedLaws
namespace Go.Proofs.Ytcnmocbiekfpbaa.P
open Go.RowKit Go.Deep Go.ChangeShapes Go.WideShapes Go.ChangeAt Go.Proofs.YtcnmocbiekfpbaaW.PrintWords Go.Proofs.YtcnmocbiekfpbaaW.PrintLast Go.Proofs.YtcnmocbiekfpbaaW.PrintMore
set_option linter.unusedVariables false
set_option linter.unusedSimpArgs false
/-! What an argument holds, its parts' sizes within the form's own reach. -/
section
variable {H : Type} {enc : TypeId × Value → H} {P : Program} {w : World} {spare : Nat → Bool} {held : Bool}
theorem wAll_mem {e : TypeId} : ∀ {l : List (DataW H)} {d : DataW H}, d ∈ l → ∀ n ∈ d.weights P e, n ∈ DataW.weightsAll P e l
  | d' :: r, d, hd, n, hn => by
    simp only [DataW.weightsAll, List.mem_append]
    rcases List.mem_cons.1 hd with rfl | h
    · exact Or.inl hn
    · exact Or.inr (wAll_mem h n hn)
def OpensZ {α : Type} (enc : TypeId × Value → H) (P : Program) (w : World) (spare : Nat → Bool) (held : Bool) (e : TypeId) (d : Kd α) (Q : α → Prop) : Prop :=
  ∀ fuel cs x, DataW.trod enc P w 0 spare held fuel e cs = some x → (∀ n ∈ x.1.weights P e, n ≤ reachBytes) → ∃ a, Q a ∧ d.K w a cs
theorem openz_of {α : Type} {e : TypeId} {d : Kd α} {Q : α → Prop} (h : Opens enc P w spare held e d Q) : OpensZ enc P w spare held e d Q := fun fuel cs x h1 _ => h fuel cs x h1
theorem openz_slice {α : Type} {e t : TypeId} {d : Kd α} {Q : α → Prop} (ht : P.underlying t = some (.slice e)) (hsz : P.cellsOf e = d.sz) (ho : OpensZ enc P w spare held e d Q) :
    OpensZ enc P w spare held t (Kd.slice e d) (fun xs => xs.length * P.bytesOf e ≤ reachBytes ∧ ∀ x ∈ xs, Q x) := by
  intro fuel cs x h hz
  rcases open_slice ht h with ⟨rfl, _⟩ | ⟨a, len, cap, m, n, D, Pl, rfl, hb, hl, hm, hmm, rfl, hel⟩
  · exact ⟨[], ⟨by simp, fun _ h => by cases h⟩, none, 0, rfl, Nat.le_refl _, rfl, Nat.zero_le _, fun h => absurd h (Nat.lt_irrefl _)⟩
  · have hlm : len ≤ m := by rw [hmm]; split <;> omega
    simp only [DataW.weights, ht] at hz
    have z1 : len * P.bytesOf e ≤ reachBytes := by
      have h1 := hz _ (List.mem_cons_self ..)
      rw [List.length_map, List.length_range, List.length_map, List.length_range] at h1
      exact Nat.le_trans (Nat.mul_le_mul_right _ (by omega)) h1
    have z2 : ∀ i, i < len → ∀ q ∈ (D i).weights P e, q ≤ reachBytes := fun i hi q hq => hz _ (List.mem_cons_of_mem _ (List.mem_append_left _ (wAll_mem (List.mem_map.2 ⟨i, List.mem_range.2 hi, rfl⟩) q hq)))
    obtain ⟨xs, hx1, hx2⟩ := list_of (R := fun i p => Q p ∧ ∃ c, c.length = d.sz ∧ d.K w p c ∧ ∀ j u, c[j]? = some u → w.cell? (a.add (i * d.sz + j)) = some u) len (fun i hi => by
      obtain ⟨cs', hc, ht'⟩ := hel i (by omega)
      obtain ⟨p, hQ, hK⟩ := ho _ _ _ ht' (z2 i hi)
      rw [hsz] at hc
      obtain ⟨c1, c2⟩ := cells_get hc
      exact ⟨p, hQ, cs', c1, hK, fun j u hu => by rw [← add_add]; exact c2 j u hu⟩)
    refine ⟨xs, ⟨by rw [hx1]; exact z1, fun x hx => ?_⟩, some a, cap, by rw [hx1], by omega, rfl, by unfold maxLen at hm; omega, fun _ => ⟨a, rfl, fun j p hj => (hx2 j p hj).2⟩⟩
    obtain ⟨i, hi, rfl⟩ := List.mem_iff_getElem.mp hx
    exact (hx2 i _ (List.getElem?_eq_getElem hi)).1
theorem openz_st2 {α0 α1 β : Type} {t : TypeId} {f0 f1 : Field} {d0 : Kd α0} {d1 : Kd α1} {Q0 : α0 → Prop} {Q1 : α1 → Prop} (ht : P.underlying t = some (.struct #[f0, f1])) (g : β → α0 × α1) (mk : α0 → α1 → β) (hg : ∀ a0 a1, g (mk a0 a1) = (a0, a1))
    (o0 : f0.offset = 0) (s0 : P.cellsOf f0.type = d0.sz) (o1 : f1.offset = d0.sz) (s1 : P.cellsOf f1.type = d1.sz) (st : P.cellsOf t = d0.sz + d1.sz)
    (h0 : OpensZ enc P w spare held f0.type d0 Q0) (h1 : OpensZ enc P w spare held f1.type d1 Q1) : OpensZ enc P w spare held t (Kd.iso (Kd.pair d0 d1) g) (fun b => ∃ a0 a1, b = mk a0 a1 ∧ Q0 a0 ∧ Q1 a1) := by
  intro fuel cs x h hz
  obtain ⟨xs, n, _, rfl, hl, hlen, hf⟩ := DataW.trod_struct ht h
  match xs, hlen with
  | [y0, y1], _ =>
    rw [st] at hl
    have t0 : DataW.trod enc P w 0 spare held n f0.type ((cs.drop f0.offset).take (P.cellsOf f0.type)) = some y0 := by simpa using hf 0 f0 rfl
    have t1 : DataW.trod enc P w 0 spare held n f1.type ((cs.drop f1.offset).take (P.cellsOf f1.type)) = some y1 := by simpa using hf 1 f1 rfl
    simp only [DataW.weights, ht, List.map_cons, List.map_nil, DataW.weightsEach, List.append_nil, List.mem_append] at hz
    rw [o0, s0] at t0
    obtain ⟨a0, q0, k0⟩ := h0 _ _ _ t0 (fun q hq => hz q (.inl hq))
    rw [o1, s1] at t1
    obtain ⟨a1, q1, k1⟩ := h1 _ _ _ t1 (fun q hq => hz q (.inr hq))
    refine ⟨mk a0 a1, ⟨a0, a1, rfl, q0, q1⟩, ?_⟩
    show Kd.K (Kd.pair d0 d1) w (g (mk a0 a1)) cs
    rw [hg]
    have c0 : cs.drop (0) = (cs.drop (0)).take d0.sz ++ cs.drop (d0.sz) := by
      have hc := cut_cons (l := cs) (o := 0) (s := d0.sz) (by omega)
      rwa [Nat.zero_add] at hc
    have e1 : (cs.drop (d0.sz)).take d1.sz = cs.drop (d0.sz) := List.take_of_length_le (by rw [List.length_drop]; omega)
    have L1 := k1
    rw [e1] at L1
    exact ⟨_, _, c0, k0, L1⟩
end
end Go.Proofs.Ytcnmocbiekfpbaa.P
