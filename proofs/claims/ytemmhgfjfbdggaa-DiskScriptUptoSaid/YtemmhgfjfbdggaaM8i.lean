import Derived.Test.YtemmhgfjfbdggaaPx0
import Derived.ProofKit
import Derived.Deep.Slices
import Derived.Test.YtemmhgfjfbdggaaRows
namespace Go.Proofs.Ytemmhgfjfbdggaa.P
open Go.RowKit Go.Deep Go.ChangeShapes Go.WideShapes Go.ChangeAt Go.Proofs.YtemmhgfjfbdggaaW.PrintWords Go.Proofs.YtemmhgfjfbdggaaW.PrintLast Go.Proofs.YtemmhgfjfbdggaaW.PrintMore
set_option linter.unusedVariables false
set_option linter.unusedSimpArgs false
section
variable {H : Type} {enc : TypeId × Value → H} {P : Program} {w : World} {spare : Nat → Bool} {held : Bool}
def Opens {α : Type} (enc : TypeId × Value → H) (P : Program) (w : World) (spare : Nat → Bool) (held : Bool) (e : TypeId) (d : Kd α) (Q : α → Prop) : Prop :=
  ∀ fuel cs x, DataW.trod enc P w 0 spare held fuel e cs = some x → ∃ a, Q a ∧ d.K w a cs
theorem opens_int {e : TypeId} {k : IntKind} (ht : P.underlying e = some (.int k)) : Opens enc P w spare held e (Kd.int k) (fun n => (Lit.int k n).wf = true) := by
  intro fuel cs x h
  obtain ⟨n, rfl, _, hw⟩ := DataW.trod_int ht h
  exact ⟨n, hw, rfl⟩
theorem list_of {α : Type} {R : Nat → α → Prop} : ∀ n : Nat, (∀ i, i < n → ∃ a, R i a) → ∃ xs : List α, xs.length = n ∧ ∀ i a, xs[i]? = some a → R i a := by
  intro n
  induction n with
  | zero => intro _; exact ⟨[], rfl, fun i a h => by simp at h⟩
  | succ n ih =>
    intro h
    obtain ⟨xs, hl, hx⟩ := ih (fun i hi => h i (by omega))
    obtain ⟨a, ha⟩ := h n (by omega)
    refine ⟨xs ++ [a], by simp [hl], fun i b hb => ?_⟩
    by_cases hi : i < n
    · rw [List.getElem?_append_left (by omega)] at hb
      exact hx i b hb
    · rw [List.getElem?_append_right (by omega)] at hb
      have e : i - xs.length = 0 := by
        rcases Nat.eq_zero_or_pos (i - xs.length) with h0 | h0
        · exact h0
        · rw [List.getElem?_eq_none (by simp; omega)] at hb; cases hb
      rw [e] at hb
      obtain rfl : a = b := by simpa using hb
      rwa [show i = n by omega]
theorem mapM_get {α β : Type} {f : α → Option β} : ∀ {l : List α} {r : List β}, l.mapM f = some r → r.length = l.length ∧ ∀ (i : Nat) (a : α), l[i]? = some a → f a = r[i]? := by
  intro l
  induction l with
  | nil => intro r h; simp at h; subst h; exact ⟨rfl, fun i a h => by simp at h⟩
  | cons a l ih =>
    intro r h
    rw [List.mapM_cons] at h
    cases hf : f a with
    | none => rw [hf] at h; simp at h
    | some b =>
      rw [hf] at h
      cases hm : l.mapM f with
      | none => rw [hm] at h; simp at h
      | some r' =>
        rw [hm] at h
        simp at h
        subst h
        obtain ⟨h1, h2⟩ := ih hm
        refine ⟨by simp [h1], fun i x hx => ?_⟩
        cases i with
        | zero => simp at hx; subst hx; simp [hf]
        | succ i => simp at hx; simpa using h2 i x hx
theorem cells_get {a : Addr} {n : Nat} {cs : List Value} (h : w.cells? 0 a n = some cs) : cs.length = n ∧ ∀ i u, cs[i]? = some u → w.cell? (a.add i) = some u := by
  unfold World.cells? at h
  rw [if_pos (Nat.zero_le _)] at h
  obtain ⟨h1, h2⟩ := mapM_get h
  rw [List.length_range] at h1
  refine ⟨h1, fun i u hu => ?_⟩
  have hi : i < n := by
    rcases Nat.lt_or_ge i n with h | h
    · exact h
    · rw [List.getElem?_eq_none (by omega)] at hu; cases hu
  rw [h2 i i (by simp [hi])]
  exact hu
theorem add_add (a : Addr) (i j : Nat) : (a.add i).add j = a.add (i + j) := by
  unfold Addr.add
  by_cases hi : i = 0
  · subst hi; simp
  · by_cases hj : j = 0
    · subst hj; simp
    · rw [if_neg hj, if_neg hi, if_neg (by omega)]; simp [Nat.add_assoc]
theorem trod_field {t : TypeId} {fs : Array Field} {fuel : Nat} {cs : List Value} {x : DataW H × List MemPlace} (ht : P.underlying t = some (.struct fs)) (h : DataW.trod enc P w 0 spare held fuel t cs = some x) :
    cs.length = P.cellsOf t ∧ ∀ (j : Nat) (f : Field), fs[j]? = some f → ∃ n y, DataW.trod enc P w 0 spare held n f.type ((cs.drop f.offset).take (P.cellsOf f.type)) = some y := by
  obtain ⟨xs, n, _, rfl, hl, hlen, hf⟩ := DataW.trod_struct ht h
  refine ⟨hl, fun j f hj => ?_⟩
  have hj2 : j < fs.size := by
    rcases Nat.lt_or_ge j fs.size with h | h
    · exact h
    · rw [Array.getElem?_eq_none h] at hj; cases hj
  exact ⟨n, xs[j]'(by omega), by rw [hf j f hj, List.getElem?_eq_getElem (by omega)]⟩
theorem cut_cons {l : List Value} {o s : Nat} (h : o + s ≤ l.length) : l.drop o = (l.drop o).take s ++ l.drop (o + s) := by
  rw [← List.drop_drop, List.take_append_drop]
theorem opens_st4 {α0 α1 α2 α3 β : Type} {t : TypeId} {f0 f1 f2 f3 : Field} {d0 : Kd α0} {d1 : Kd α1} {d2 : Kd α2} {d3 : Kd α3} {Q0 : α0 → Prop} {Q1 : α1 → Prop} {Q2 : α2 → Prop} {Q3 : α3 → Prop} (ht : P.underlying t = some (.struct #[f0, f1, f2, f3])) (g : β → α0 × α1 × α2 × α3) (mk : α0 → α1 → α2 → α3 → β) (hg : ∀ a0 a1 a2 a3, g (mk a0 a1 a2 a3) = (a0, a1, a2, a3))
    (o0 : f0.offset = 0) (s0 : P.cellsOf f0.type = d0.sz) (o1 : f1.offset = d0.sz) (s1 : P.cellsOf f1.type = d1.sz) (o2 : f2.offset = d0.sz + d1.sz) (s2 : P.cellsOf f2.type = d2.sz) (o3 : f3.offset = d0.sz + d1.sz + d2.sz) (s3 : P.cellsOf f3.type = d3.sz) (st : P.cellsOf t = d0.sz + d1.sz + d2.sz + d3.sz)
    (h0 : Opens enc P w spare held f0.type d0 Q0) (h1 : Opens enc P w spare held f1.type d1 Q1) (h2 : Opens enc P w spare held f2.type d2 Q2) (h3 : Opens enc P w spare held f3.type d3 Q3) : Opens enc P w spare held t (Kd.iso (Kd.pair d0 (Kd.pair d1 (Kd.pair d2 d3))) g) (fun b => ∃ a0 a1 a2 a3, b = mk a0 a1 a2 a3 ∧ Q0 a0 ∧ Q1 a1 ∧ Q2 a2 ∧ Q3 a3) := by
  intro fuel cs x h
  obtain ⟨hl, hf⟩ := trod_field ht h
  rw [st] at hl
  obtain ⟨n0, y0, t0⟩ := hf 0 f0 rfl
  rw [o0, s0] at t0
  obtain ⟨a0, q0, k0⟩ := h0 _ _ _ t0
  obtain ⟨n1, y1, t1⟩ := hf 1 f1 rfl
  rw [o1, s1] at t1
  obtain ⟨a1, q1, k1⟩ := h1 _ _ _ t1
  obtain ⟨n2, y2, t2⟩ := hf 2 f2 rfl
  rw [o2, s2] at t2
  obtain ⟨a2, q2, k2⟩ := h2 _ _ _ t2
  obtain ⟨n3, y3, t3⟩ := hf 3 f3 rfl
  rw [o3, s3] at t3
  obtain ⟨a3, q3, k3⟩ := h3 _ _ _ t3
  refine ⟨mk a0 a1 a2 a3, ⟨a0, a1, a2, a3, rfl, q0, q1, q2, q3⟩, ?_⟩
  show Kd.K (Kd.pair d0 (Kd.pair d1 (Kd.pair d2 d3))) w (g (mk a0 a1 a2 a3)) cs
  rw [hg]
  have z0 : cs = cs.drop 0 := rfl
  have c0 : cs.drop (0) = (cs.drop (0)).take d0.sz ++ cs.drop (d0.sz) := by
    have hc := cut_cons (l := cs) (o := 0) (s := d0.sz) (by omega)
    rwa [Nat.zero_add] at hc
  have c1 : cs.drop (d0.sz) = (cs.drop (d0.sz)).take d1.sz ++ cs.drop (d0.sz + d1.sz) := cut_cons (by omega)
  have c2 : cs.drop (d0.sz + d1.sz) = (cs.drop (d0.sz + d1.sz)).take d2.sz ++ cs.drop (d0.sz + d1.sz + d2.sz) := cut_cons (by omega)
  have e3 : (cs.drop (d0.sz + d1.sz + d2.sz)).take d3.sz = cs.drop (d0.sz + d1.sz + d2.sz) := List.take_of_length_le (by rw [List.length_drop]; omega)
  have L3 := k3
  rw [e3] at L3
  exact ⟨_, _, c0, k0, ⟨_, _, c1, k1, ⟨_, _, c2, k2, L3⟩⟩⟩
end
end Go.Proofs.Ytemmhgfjfbdggaa.P
namespace Go.Proofs.Ytemmhgfjfbdggaa.P
open Go.RowKit Go.Deep Go.ChangeShapes Go.WideShapes Go.ChangeAt Go.Proofs.YtemmhgfjfbdggaaW.PrintWords Go.Proofs.YtemmhgfjfbdggaaW.PrintLast Go.Proofs.YtemmhgfjfbdggaaW.PrintMore
set_option linter.unusedVariables false
set_option linter.unusedSimpArgs false
section
variable {H : Type} {enc : TypeId × Value → H} {P : Program} {w : World} {spare : Nat → Bool} {held : Bool} {B : Nat}
theorem bulk_one (d : DataW H) : 1 ≤ Rows.uptoBulk d := by
  cases d with
  | lit l => cases l <;> simp [Rows.uptoBulk]
  | _ => simp [Rows.uptoBulk]
theorem bulk_part {d : DataW H} : ∀ {l : List (DataW H)}, d ∈ l → Rows.uptoBulk d ≤ Rows.uptoBulkAll l
  | x :: r, h => by
    simp only [Rows.uptoBulkAll]
    rcases List.mem_cons.1 h with e | e
    · subst e; omega
    · have := bulk_part e; omega
theorem bulk_len : ∀ l : List (DataW H), l.length ≤ Rows.uptoBulkAll l
  | [] => by simp [Rows.uptoBulkAll]
  | x :: r => by
    have h1 := bulk_one x
    have h2 := bulk_len r
    simp only [Rows.uptoBulkAll, List.length_cons]
    omega
def OpensU {α : Type} (B : Nat) (enc : TypeId × Value → H) (P : Program) (w : World) (spare : Nat → Bool) (held : Bool) (e : TypeId) (d : Kd α) (Q : α → Prop) : Prop :=
  ∀ fuel cs x, DataW.trod enc P w 0 spare held fuel e cs = some x → Rows.uptoBulk x.1 ≤ B → ∃ a, Q a ∧ d.K w a cs
theorem openu_of {α : Type} {e : TypeId} {d : Kd α} {Q : α → Prop} (h : Opens enc P w spare held e d Q) : OpensU B enc P w spare held e d Q := fun fuel cs x h1 _ => h fuel cs x h1
theorem openu_slice {α : Type} {e t : TypeId} {d : Kd α} {Q : α → Prop} (ht : P.underlying t = some (.slice e)) (hsz : P.cellsOf e = d.sz) (ho : OpensU B enc P w spare held e d Q) :
    OpensU B enc P w spare held t (Kd.slice e d) (fun xs => xs.length ≤ B ∧ ∀ x ∈ xs, Q x) := by
  intro fuel cs x h hz
  rcases open_slice ht h with ⟨rfl, _⟩ | ⟨a, len, cap, m, n, D, Pl, rfl, hb, hl, hm, hmm, rfl, hel⟩
  · exact ⟨[], ⟨by simp, fun _ h => by cases h⟩, none, 0, rfl, Nat.le_refl _, rfl, Nat.zero_le _, fun h => absurd h (Nat.lt_irrefl _)⟩
  · have hlm : len ≤ m := by rw [hmm]; split <;> omega
    simp only [Rows.uptoBulk] at hz
    have z1 : len ≤ B := by
      have h1 := bulk_len ((List.range len).map D)
      rw [List.length_map, List.length_range] at h1
      omega
    have z2 : ∀ i, i < len → Rows.uptoBulk (D i) ≤ B := fun i hi => by
      have h1 := bulk_part (d := D i) (List.mem_map.2 ⟨i, List.mem_range.2 hi, rfl⟩ : D i ∈ (List.range len).map D)
      omega
    obtain ⟨xs, hx1, hx2⟩ := list_of (R := fun i p => Q p ∧ ∃ c, c.length = d.sz ∧ d.K w p c ∧ ∀ j u, c[j]? = some u → w.cell? (a.add (i * d.sz + j)) = some u) len (fun i hi => by
      obtain ⟨cs', hc, ht'⟩ := hel i (by omega)
      obtain ⟨p, hQ, hK⟩ := ho _ _ _ ht' (z2 i hi)
      rw [hsz] at hc
      obtain ⟨c1, c2⟩ := cells_get hc
      exact ⟨p, hQ, cs', c1, hK, fun j u hu => by rw [← add_add]; exact c2 j u hu⟩)
    refine ⟨xs, ⟨by rw [hx1]; exact z1, fun x hx => ?_⟩, some a, cap, by rw [hx1], by omega, rfl, by unfold maxLen at hm; omega, fun _ => ⟨a, rfl, fun j p hj => (hx2 j p hj).2⟩⟩
    obtain ⟨i, hi, rfl⟩ := List.mem_iff_getElem.mp hx
    exact (hx2 i _ (List.getElem?_eq_getElem hi)).1
theorem openu_st2 {α0 α1 β : Type} {t : TypeId} {f0 f1 : Field} {d0 : Kd α0} {d1 : Kd α1} {Q0 : α0 → Prop} {Q1 : α1 → Prop} (ht : P.underlying t = some (.struct #[f0, f1])) (g : β → α0 × α1) (mk : α0 → α1 → β) (hg : ∀ a0 a1, g (mk a0 a1) = (a0, a1))
    (o0 : f0.offset = 0) (s0 : P.cellsOf f0.type = d0.sz) (o1 : f1.offset = d0.sz) (s1 : P.cellsOf f1.type = d1.sz) (st : P.cellsOf t = d0.sz + d1.sz)
    (h0 : OpensU B enc P w spare held f0.type d0 Q0) (h1 : OpensU B enc P w spare held f1.type d1 Q1) : OpensU B enc P w spare held t (Kd.iso (Kd.pair d0 d1) g) (fun b => ∃ a0 a1, b = mk a0 a1 ∧ Q0 a0 ∧ Q1 a1) := by
  intro fuel cs x h hz
  obtain ⟨xs, n, _, rfl, hl, hlen, hf⟩ := DataW.trod_struct ht h
  match xs, hlen with
  | [y0, y1], _ =>
    rw [st] at hl
    have t0 : DataW.trod enc P w 0 spare held n f0.type ((cs.drop f0.offset).take (P.cellsOf f0.type)) = some y0 := by simpa using hf 0 f0 rfl
    have t1 : DataW.trod enc P w 0 spare held n f1.type ((cs.drop f1.offset).take (P.cellsOf f1.type)) = some y1 := by simpa using hf 1 f1 rfl
    simp only [List.map_cons, List.map_nil, Rows.uptoBulk, Rows.uptoBulkAll] at hz
    rw [o0, s0] at t0
    obtain ⟨a0, q0, k0⟩ := h0 _ _ _ t0 (by omega)
    rw [o1, s1] at t1
    obtain ⟨a1, q1, k1⟩ := h1 _ _ _ t1 (by omega)
    refine ⟨mk a0 a1, ⟨a0, a1, rfl, q0, q1⟩, ?_⟩
    show Kd.K (Kd.pair d0 d1) w (g (mk a0 a1)) cs
    rw [hg]
    have c0 : cs.drop (0) = (cs.drop (0)).take d0.sz ++ cs.drop (d0.sz) := by
      have hc := cut_cons (l := cs) (o := 0) (s := d0.sz) (by omega)
      rwa [Nat.zero_add] at hc
    have e1 : (cs.drop (d0.sz)).take d1.sz = cs.drop (d0.sz) := List.take_of_length_le (by rw [List.length_drop]; omega)
    have L1 := k1
    rw [e1] at L1
    exact ⟨_, _, c0, k0, L1⟩
theorem openu_st4 {α0 α1 α2 α3 β : Type} {t : TypeId} {f0 f1 f2 f3 : Field} {d0 : Kd α0} {d1 : Kd α1} {d2 : Kd α2} {d3 : Kd α3} {Q0 : α0 → Prop} {Q1 : α1 → Prop} {Q2 : α2 → Prop} {Q3 : α3 → Prop} (ht : P.underlying t = some (.struct #[f0, f1, f2, f3])) (g : β → α0 × α1 × α2 × α3) (mk : α0 → α1 → α2 → α3 → β) (hg : ∀ a0 a1 a2 a3, g (mk a0 a1 a2 a3) = (a0, a1, a2, a3))
    (o0 : f0.offset = 0) (s0 : P.cellsOf f0.type = d0.sz) (o1 : f1.offset = d0.sz) (s1 : P.cellsOf f1.type = d1.sz) (o2 : f2.offset = d0.sz + d1.sz) (s2 : P.cellsOf f2.type = d2.sz) (o3 : f3.offset = d0.sz + d1.sz + d2.sz) (s3 : P.cellsOf f3.type = d3.sz) (st : P.cellsOf t = d0.sz + d1.sz + d2.sz + d3.sz)
    (h0 : OpensU B enc P w spare held f0.type d0 Q0) (h1 : OpensU B enc P w spare held f1.type d1 Q1) (h2 : OpensU B enc P w spare held f2.type d2 Q2) (h3 : OpensU B enc P w spare held f3.type d3 Q3) : OpensU B enc P w spare held t (Kd.iso (Kd.pair d0 (Kd.pair d1 (Kd.pair d2 d3))) g) (fun b => ∃ a0 a1 a2 a3, b = mk a0 a1 a2 a3 ∧ Q0 a0 ∧ Q1 a1 ∧ Q2 a2 ∧ Q3 a3) := by
  intro fuel cs x h hz
  obtain ⟨xs, n, _, rfl, hl, hlen, hf⟩ := DataW.trod_struct ht h
  match xs, hlen with
  | [y0, y1, y2, y3], _ =>
    rw [st] at hl
    have t0 : DataW.trod enc P w 0 spare held n f0.type ((cs.drop f0.offset).take (P.cellsOf f0.type)) = some y0 := by simpa using hf 0 f0 rfl
    have t1 : DataW.trod enc P w 0 spare held n f1.type ((cs.drop f1.offset).take (P.cellsOf f1.type)) = some y1 := by simpa using hf 1 f1 rfl
    have t2 : DataW.trod enc P w 0 spare held n f2.type ((cs.drop f2.offset).take (P.cellsOf f2.type)) = some y2 := by simpa using hf 2 f2 rfl
    have t3 : DataW.trod enc P w 0 spare held n f3.type ((cs.drop f3.offset).take (P.cellsOf f3.type)) = some y3 := by simpa using hf 3 f3 rfl
    simp only [List.map_cons, List.map_nil, Rows.uptoBulk, Rows.uptoBulkAll] at hz
    rw [o0, s0] at t0
    obtain ⟨a0, q0, k0⟩ := h0 _ _ _ t0 (by omega)
    rw [o1, s1] at t1
    obtain ⟨a1, q1, k1⟩ := h1 _ _ _ t1 (by omega)
    rw [o2, s2] at t2
    obtain ⟨a2, q2, k2⟩ := h2 _ _ _ t2 (by omega)
    rw [o3, s3] at t3
    obtain ⟨a3, q3, k3⟩ := h3 _ _ _ t3 (by omega)
    refine ⟨mk a0 a1 a2 a3, ⟨a0, a1, a2, a3, rfl, q0, q1, q2, q3⟩, ?_⟩
    show Kd.K (Kd.pair d0 (Kd.pair d1 (Kd.pair d2 d3))) w (g (mk a0 a1 a2 a3)) cs
    rw [hg]
    have c0 : cs.drop (0) = (cs.drop (0)).take d0.sz ++ cs.drop (d0.sz) := by
      have hc := cut_cons (l := cs) (o := 0) (s := d0.sz) (by omega)
      rwa [Nat.zero_add] at hc
    have c1 : cs.drop (d0.sz) = (cs.drop (d0.sz)).take d1.sz ++ cs.drop (d0.sz + d1.sz) := cut_cons (by omega)
    have c2 : cs.drop (d0.sz + d1.sz) = (cs.drop (d0.sz + d1.sz)).take d2.sz ++ cs.drop (d0.sz + d1.sz + d2.sz) := cut_cons (by omega)
    have e3 : (cs.drop (d0.sz + d1.sz + d2.sz)).take d3.sz = cs.drop (d0.sz + d1.sz + d2.sz) := List.take_of_length_le (by rw [List.length_drop]; omega)
    have L3 := k3
    rw [e3] at L3
    exact ⟨_, _, c0, k0, ⟨_, _, c1, k1, ⟨_, _, c2, k2, L3⟩⟩⟩
theorem openu_st6 {α0 α1 α2 α3 α4 α5 β : Type} {t : TypeId} {f0 f1 f2 f3 f4 f5 : Field} {d0 : Kd α0} {d1 : Kd α1} {d2 : Kd α2} {d3 : Kd α3} {d4 : Kd α4} {d5 : Kd α5} {Q0 : α0 → Prop} {Q1 : α1 → Prop} {Q2 : α2 → Prop} {Q3 : α3 → Prop} {Q4 : α4 → Prop} {Q5 : α5 → Prop} (ht : P.underlying t = some (.struct #[f0, f1, f2, f3, f4, f5])) (g : β → α0 × α1 × α2 × α3 × α4 × α5) (mk : α0 → α1 → α2 → α3 → α4 → α5 → β) (hg : ∀ a0 a1 a2 a3 a4 a5, g (mk a0 a1 a2 a3 a4 a5) = (a0, a1, a2, a3, a4, a5))
    (o0 : f0.offset = 0) (s0 : P.cellsOf f0.type = d0.sz) (o1 : f1.offset = d0.sz) (s1 : P.cellsOf f1.type = d1.sz) (o2 : f2.offset = d0.sz + d1.sz) (s2 : P.cellsOf f2.type = d2.sz) (o3 : f3.offset = d0.sz + d1.sz + d2.sz) (s3 : P.cellsOf f3.type = d3.sz) (o4 : f4.offset = d0.sz + d1.sz + d2.sz + d3.sz) (s4 : P.cellsOf f4.type = d4.sz) (o5 : f5.offset = d0.sz + d1.sz + d2.sz + d3.sz + d4.sz) (s5 : P.cellsOf f5.type = d5.sz) (st : P.cellsOf t = d0.sz + d1.sz + d2.sz + d3.sz + d4.sz + d5.sz)
    (h0 : OpensU B enc P w spare held f0.type d0 Q0) (h1 : OpensU B enc P w spare held f1.type d1 Q1) (h2 : OpensU B enc P w spare held f2.type d2 Q2) (h3 : OpensU B enc P w spare held f3.type d3 Q3) (h4 : OpensU B enc P w spare held f4.type d4 Q4) (h5 : OpensU B enc P w spare held f5.type d5 Q5) : OpensU B enc P w spare held t (Kd.iso (Kd.pair d0 (Kd.pair d1 (Kd.pair d2 (Kd.pair d3 (Kd.pair d4 d5))))) g) (fun b => ∃ a0 a1 a2 a3 a4 a5, b = mk a0 a1 a2 a3 a4 a5 ∧ Q0 a0 ∧ Q1 a1 ∧ Q2 a2 ∧ Q3 a3 ∧ Q4 a4 ∧ Q5 a5) := by
  intro fuel cs x h hz
  obtain ⟨xs, n, _, rfl, hl, hlen, hf⟩ := DataW.trod_struct ht h
  match xs, hlen with
  | [y0, y1, y2, y3, y4, y5], _ =>
    rw [st] at hl
    have t0 : DataW.trod enc P w 0 spare held n f0.type ((cs.drop f0.offset).take (P.cellsOf f0.type)) = some y0 := by simpa using hf 0 f0 rfl
    have t1 : DataW.trod enc P w 0 spare held n f1.type ((cs.drop f1.offset).take (P.cellsOf f1.type)) = some y1 := by simpa using hf 1 f1 rfl
    have t2 : DataW.trod enc P w 0 spare held n f2.type ((cs.drop f2.offset).take (P.cellsOf f2.type)) = some y2 := by simpa using hf 2 f2 rfl
    have t3 : DataW.trod enc P w 0 spare held n f3.type ((cs.drop f3.offset).take (P.cellsOf f3.type)) = some y3 := by simpa using hf 3 f3 rfl
    have t4 : DataW.trod enc P w 0 spare held n f4.type ((cs.drop f4.offset).take (P.cellsOf f4.type)) = some y4 := by simpa using hf 4 f4 rfl
    have t5 : DataW.trod enc P w 0 spare held n f5.type ((cs.drop f5.offset).take (P.cellsOf f5.type)) = some y5 := by simpa using hf 5 f5 rfl
    simp only [List.map_cons, List.map_nil, Rows.uptoBulk, Rows.uptoBulkAll] at hz
    rw [o0, s0] at t0
    obtain ⟨a0, q0, k0⟩ := h0 _ _ _ t0 (by omega)
    rw [o1, s1] at t1
    obtain ⟨a1, q1, k1⟩ := h1 _ _ _ t1 (by omega)
    rw [o2, s2] at t2
    obtain ⟨a2, q2, k2⟩ := h2 _ _ _ t2 (by omega)
    rw [o3, s3] at t3
    obtain ⟨a3, q3, k3⟩ := h3 _ _ _ t3 (by omega)
    rw [o4, s4] at t4
    obtain ⟨a4, q4, k4⟩ := h4 _ _ _ t4 (by omega)
    rw [o5, s5] at t5
    obtain ⟨a5, q5, k5⟩ := h5 _ _ _ t5 (by omega)
    refine ⟨mk a0 a1 a2 a3 a4 a5, ⟨a0, a1, a2, a3, a4, a5, rfl, q0, q1, q2, q3, q4, q5⟩, ?_⟩
    show Kd.K (Kd.pair d0 (Kd.pair d1 (Kd.pair d2 (Kd.pair d3 (Kd.pair d4 d5))))) w (g (mk a0 a1 a2 a3 a4 a5)) cs
    rw [hg]
    have c0 : cs.drop (0) = (cs.drop (0)).take d0.sz ++ cs.drop (d0.sz) := by
      have hc := cut_cons (l := cs) (o := 0) (s := d0.sz) (by omega)
      rwa [Nat.zero_add] at hc
    have c1 : cs.drop (d0.sz) = (cs.drop (d0.sz)).take d1.sz ++ cs.drop (d0.sz + d1.sz) := cut_cons (by omega)
    have c2 : cs.drop (d0.sz + d1.sz) = (cs.drop (d0.sz + d1.sz)).take d2.sz ++ cs.drop (d0.sz + d1.sz + d2.sz) := cut_cons (by omega)
    have c3 : cs.drop (d0.sz + d1.sz + d2.sz) = (cs.drop (d0.sz + d1.sz + d2.sz)).take d3.sz ++ cs.drop (d0.sz + d1.sz + d2.sz + d3.sz) := cut_cons (by omega)
    have c4 : cs.drop (d0.sz + d1.sz + d2.sz + d3.sz) = (cs.drop (d0.sz + d1.sz + d2.sz + d3.sz)).take d4.sz ++ cs.drop (d0.sz + d1.sz + d2.sz + d3.sz + d4.sz) := cut_cons (by omega)
    have e5 : (cs.drop (d0.sz + d1.sz + d2.sz + d3.sz + d4.sz)).take d5.sz = cs.drop (d0.sz + d1.sz + d2.sz + d3.sz + d4.sz) := List.take_of_length_le (by rw [List.length_drop]; omega)
    have L5 := k5
    rw [e5] at L5
    exact ⟨_, _, c0, k0, ⟨_, _, c1, k1, ⟨_, _, c2, k2, ⟨_, _, c3, k3, ⟨_, _, c4, k4, L5⟩⟩⟩⟩⟩
end
end Go.Proofs.Ytemmhgfjfbdggaa.P
