import Derived.Test.YtmhfgcmgeglmhaaDoorP21H
import Derived.Laws.IdiomCopy
import Derived.Laws.Slices
namespace Go.Proofs.YtmhfgcmgeglmhaaDoor.P
open Go.RowKit Go.Proofs.YtmhfgcmgeglmhaaDoorW.PrintWords Go.Proofs.YtmhfgcmgeglmhaaDoorW.PrintLast Go.Proofs.YtmhfgcmgeglmhaaDoorW.PrintMore
attribute [local go_sem] max2_int min2_int max_two min_two max_three min_three max_four min_four
set_option linter.unusedVariables false
set_option linter.unusedSimpArgs false
theorem cut_at (g n cap j : Nat) (hj : j ≤ n) (hn : n ≤ cap) : ∃ D : Option Addr, (∀ W : World, (Instr.slice 32 (.slice (some ⟨g, 0, none⟩) n cap) (some (.int .i64 (j : Int))) none none).run Tryd.prog W = .ok (.slice D (n - j) (cap - j)) W) ∧ (j < cap → D = some ⟨g, j, none⟩) := by
  refine ⟨if cap = j then some ⟨g, 0, none⟩ else some ⟨g, j, none⟩, fun W => ?_, fun h => if_neg (by omega)⟩
  have he : Tryd.prog.elem 32 = 9 := by kernel_rfl
  have h := run_slice_l (P := Tryd.prog) W 32 (some ⟨g, 0, none⟩) n cap (by rw [he]; exact Tryd.underlying32) .i64 (j : Int) (by omega) (by omega)
  rw [h, Int.toNat_natCast, he]
  have hs : (sizeOf 9).run Tryd.prog W = .ok 1 W := Tryd.sizeOf9 W
  rw [hs]
  show Result.ok (sliced (some ⟨g, 0, none⟩) j n cap 1) W = _
  unfold sliced
  by_cases hc : cap = j
  · rw [if_pos hc, if_pos hc]
  · rw [if_neg hc, if_neg hc, Nat.mul_one]
    show Result.ok (Value.slice (some ((⟨g, 0, none⟩ : Addr).add j)) (n - j) (cap - j)) W = _
    rw [show (⟨g, 0, none⟩ : Addr).add j = ⟨g, j, none⟩ by rw [add_plain]]
theorem size9 : (Tryd.prog.info? 9).map (·.size) = some 1 := by kernel_rfl
/-- copy(out[p+1:], out[p:]) in a row of strings. -/
theorem shift_run (W : World) (base g n cap p : Nat) (D : Option Addr) (acc : List ByteArray) (em : ByteArray) (hn : acc.length = n) (hp : p ≤ n) (hcap : n + 1 ≤ cap) (hD : p + 1 < cap → D = some ⟨g, p + 1, none⟩)
    (ho : W.ownsRow base 9 1 (.slice (some ⟨g, 0, none⟩) (n + 1) cap) (n + 1) ((acc ++ [em]).map Value.string)) :
    (Builtin.copy_ #[32, 32] 3 #[.slice D (n - p) (cap - (p + 1)), .slice (some ⟨g, p, none⟩) (n + 1 - p) (cap - p)]).run Tryd.prog W = .ok (.int .i64 ((n - p : Nat) : Int)) (W.setCells g (p + 1) ((acc.drop p).map Value.string)) := by
  have hlen : ((acc.drop p).map Value.string).length = n - p := by rw [List.length_map, List.length_drop, hn]
  by_cases h0 : n - p = 0
  · have e : (acc.drop p).map Value.string = [] := List.eq_nil_of_length_eq_zero (by rw [hlen]; exact h0)
    rw [e]
    have h := run_copy_none (P := Tryd.prog) W 32 32 3 9 D (some ⟨g, p, none⟩) (n - p) (cap - (p + 1)) (n + 1 - p) (cap - p) Tryd.underlying32 size9 (by rw [h0]; show min (n + 1 - p) 0 = 0; omega)
    rw [h, h0]
    rfl
  · rw [hD (by omega)]
    have h := run_copy_cells (P := Tryd.prog) W 32 32 3 9 g (p + 1) (n - p) (cap - (p + 1)) ⟨g, p, none⟩ (n + 1 - p) (cap - p) ((acc.drop p).map Value.string) Tryd.underlying32 size9 (by rw [hlen]; show _ = min (n + 1 - p) (n - p); omega) (fun j v hv => ?_) (fun j hj => ?_) (fun j hj => World.ownsRow.frozenAt ho _) (fun v hv => by obtain ⟨s, _, rfl⟩ := List.mem_map.mp hv; rfl)
    · rw [h, hlen]
      simp [goInt]
    · have hj : j < n - p := by
        rw [← hlen]
        exact (List.getElem?_eq_some_iff.mp hv).1
      have hc := World.ownsRow.cellAt ho (p + j) (by omega)
      rw [show (⟨g, p, none⟩ : Addr).add j = ⟨g, p + j, none⟩ by simp [Addr.add], hc, ← hv]
      simp only [List.getElem?_map, List.getElem?_drop]
      rw [List.getElem?_append_left (by omega)]
    · rw [World.ownsRow.cellAt ho (p + 1 + j) (by rw [hlen] at hj; omega)]
      rw [hlen] at hj
      simp only [List.getElem?_map]
      rw [List.getElem?_eq_getElem (by simp; omega)]
      rfl
theorem shift_list (acc : List ByteArray) (em x : ByteArray) (p : Nat) (hp : p ≤ acc.length) : (((acc ++ [em]).take (p + 1) ++ acc.drop p ++ (acc ++ [em]).drop (p + 1 + (acc.length - p))).set p x) = acc.take p ++ [x] ++ acc.drop p := by
  have e0 : (acc ++ [em]).drop (p + 1 + (acc.length - p)) = [] := List.drop_of_length_le (by rw [List.length_append, List.length_singleton]; omega)
  have e1 : (acc ++ [em]).take (p + 1) = acc.take p ++ [(acc ++ [em])[p]'(by rw [List.length_append, List.length_singleton]; omega)] := by
    rw [List.take_succ_eq_append_getElem (by rw [List.length_append, List.length_singleton]; omega), List.take_append_of_le_length hp]
  have hl : (acc.take p).length = p := by rw [List.length_take]; omega
  rw [e0, e1, List.append_nil, List.append_assoc, List.append_assoc, List.set_append_right _ _ (by rw [hl]; exact Nat.le_refl _), hl, Nat.sub_self]
  rfl
theorem shift_own (W : World) (base g n cap p : Nat) (acc : List ByteArray) (em x : ByteArray) (hn : acc.length = n) (hp : p ≤ n)
    (ho : W.ownsRow base 9 1 (.slice (some ⟨g, 0, none⟩) (n + 1) cap) (n + 1) ((acc ++ [em]).map Value.string)) :
    ((W.setCells g (p + 1) ((acc.drop p).map Value.string)).setCell ⟨g, p, none⟩ (.string x)).ownsRow base 9 1 (.slice (some ⟨g, 0, none⟩) (n + 1) cap) (n + 1) ((acc.take p ++ [x] ++ acc.drop p).map Value.string) ∧
      W.grownBy ((W.setCells g (p + 1) ((acc.drop p).map Value.string)).setCell ⟨g, p, none⟩ (.string x)) (some g) ∧
      (W.setCells g (p + 1) ((acc.drop p).map Value.string)).cell? ⟨g, p, none⟩ = some (.string ((acc ++ [em]).getD p em)) ∧ (W.setCells g (p + 1) ((acc.drop p).map Value.string)).frozen? ⟨g, p, none⟩ = false ∧ W.grownBy (W.setCells g (p + 1) ((acc.drop p).map Value.string)) (some g) := by
  have h1 := own_setCells ((acc.drop p).map Value.string) (p + 1) W _ ho (by rw [List.length_map, List.length_drop, hn]; omega)
  have h2 := h1.1.stored p (.string x)
  refine ⟨?_, World.grownBy.trans h1.2 h2.2, ?_, World.ownsRow.frozenAt h1.1 p, h1.2⟩
  · have e := congrArg (List.map Value.string) (shift_list acc em x p (by omega))
    have h3 := h2.1
    simp only [List.map_append, List.map_set, List.map_take, List.map_drop, List.map_cons, List.map_nil, List.length_map, List.length_drop] at h3 e ⊢
    rw [e] at h3
    exact h3
  · rw [World.ownsRow.cellAt h1.1 p (by omega)]
    rw [List.append_assoc, List.getElem?_append_left (by simp; omega), List.getElem?_take_of_lt (by omega), List.getElem?_map, List.getElem?_eq_getElem (by simp; omega)]
    simp [List.getD, List.getElem?_eq_getElem (show p < (acc ++ [em]).length by simp; omega)]
theorem row_one {W : World} {base : Nat} {v : Value} {acc : List ByteArray} {em : ByteArray} (h : W.ownsRow base 9 1 v (acc.map Value.string ++ [Value.string em]).length (acc.map Value.string ++ [Value.string em])) : W.ownsRow base 9 1 v (acc.length + 1) ((acc ++ [em]).map Value.string) := by
  rw [List.map_append]
  rw [List.length_append, List.length_map] at h
  exact h
theorem own_form {W : World} {base : Nat} {e : TypeId} {v : Value} {n : Nat} {xs : List Value} (h : W.ownsRow base e 1 v (n + 1) xs) : ∃ g cap, v = .slice (some ⟨g, 0, none⟩) (n + 1) cap ∧ base ≤ g ∧ g < W.heap.size ∧ n + 1 ≤ cap := by
  have hl := own_lt h
  rcases h.2 with ⟨rfl, h0⟩ | ⟨g, cap, cur, rfl, hbg, hg, hnc, hcm, hcs, htake⟩
  · omega
  · exact ⟨g, cap, rfl, hbg, hl g rfl, hnc⟩
theorem toList_inj {a b : ByteArray} (h : a.toList = b.toList) : a = b := by
  rw [ByteArray.toList_eq, ByteArray.toList_eq] at h
  exact ByteArray.ext (Array.toList_inj.mp h)
theorem run_value_of {α : Type} {P : Program} {m : Sem Value} {W W' : World} {v : Value} (h : m.run P W = .ok v W') : (m >>= fun v => pure (Next.value v)).run P W = .ok (Next.value v) W' := by
  rw [Sem.run_bind, h]
  rfl
def twoslotref21_Sort.f (l : List ByteArray) : Option (List ByteArray × Int) := some (if l.length > 65536 then ([], 20) else if badAny l = true then ([], 6) else (rowB l, 0))
theorem size_may {s : ByteArray} (h : mayB s = true) : s.size ≤ 24 := by unfold mayB at h; have := of_decide_eq_true h; omega
theorem badAny_may {l : List ByteArray} (h : badAny l = false) : ∀ s ∈ l, mayB s = true := by
  intro s hs
  unfold badAny at h
  rw [List.any_eq_false] at h
  have := h s hs
  simpa using this
theorem badAny_of {l : List ByteArray} {k : Nat} (hk : k < l.length) (hm : mayB l[k] = false) : badAny l = true := by
  unfold badAny
  rw [List.any_eq_true]
  exact ⟨l[k], List.getElem_mem hk, by rw [hm]; rfl⟩
set_option maxHeartbeats 8000000 in
set_option maxRecDepth 100000 in
theorem refSort.good (A0 : Option Addr) (c0 : Nat) (l0 : List ByteArray) (w : World) (hr0 : Kd.C Kd.string w A0 l0.length l0) (hl : l0.length ≤ 65536) (rr : List ByteArray) (cc : Int) (HRC : Aside0 ((if badAny l0 = true then ([], 6) else (rowB l0, 0)) = (rr, cc))) : Calls Tryd.prog 22 #[.slice A0 l0.length c0] w fun e w' => ∃ v0_ : Value, e = .returned (.tuple #[v0_, .int .i64 cc]) ∧ Kd.R Kd.string 9 w' w.heap.size (fun _ => True) v0_ rr ∧ Below w.heap.size w w' := by
  have HB := Aside0.mk (Below.refl w.heap.size w)
  have HC := Aside0.mk hr0
  have HL := Aside0.mk hl
  have b1 : decide ((l0.length : Int) > 65536) = false := decide_eq_false (by omega)
  have b2 : decide (l0.length > 65536) = false := decide_eq_false (by omega)
  have b3 : decide ((65536 : Int) < (l0.length : Int)) = false := decide_eq_false (by omega)
  clear hr0 hl
  go_enter Tryd.func22, Tryd.ntmps22
  go_wp2
  clear b1 b2 b3
  go_loopg [4, 5] l0.length (fun kq v4 v5 wr => ∃ k : Nat, v5 = .int .i64 (k : Int) ∧ Aside0 (k ≤ l0.length ∧ l0.length - k ≤ kq) ∧ Aside0 (badAny (l0.take k) = false) ∧ Aside0 (Kd.R Kd.string 9 wr w.heap.size (fun _ => True) v4 (rowB (l0.take k)) ∧ (rowB (l0.take k)).length ≤ k) ∧ Aside0 (Below w.heap.size w wr))
  case atStart => exact ⟨0, rfl, Aside0.mk ⟨by omega, by omega⟩, Aside0.mk rfl, Aside0.mk ⟨Kd.R_nil _ _ _ _ _, Nat.le_refl _⟩, HB⟩
  case round =>
    clear HB
    obtain ⟨k, rfl, AX, HN, HO0, HB⟩ := hrel
    by_cases hlt : k < l0.length
    · obtain ⟨ad, eA, hx⟩ := str_elem (Kd.C_below HC.out HB.out) k hlt
      subst eA
      obtain ⟨x, hxx⟩ : ∃ x, l0[k] = x := ⟨_, rfl⟩
      rw [hxx] at hx
      have HX0 := Aside0.mk (show ∀ W : World, Below w.heap.size w W → W.cell? (ad.add k) = some (.string x) from fun W hW => by
        obtain ⟨ad', e, h⟩ := str_elem (Kd.C_below HC.out hW) k hlt
        injection e with e
        subst e
        rw [hxx] at h
        exact h)
      have ht := badAny_take l0 k hlt
      rw [hxx] at ht
      have HT := Aside0.mk ht
      have hst := rowB_step l0 k hlt
      rw [hxx] at hst
      have HST := Aside0.mk hst
      have b1 : decide ((k : Int) < (l0.length : Int)) = true := decide_eq_true (by omega)
      have b2 : decide (k < l0.length) = true := decide_eq_true hlt
      have b3 : (k < l0.length) = True := eq_true hlt
      have HK := Aside0.mk hlt
      by_cases hm : mayB x = true
      · have HM := Aside0.mk (show twoslotref21_May.f x = some true by rw [may_ev, hm])
        have HMM := Aside0.mk hm
        obtain ⟨acc, hacc⟩ : ∃ acc, rowB (l0.take k) = acc := ⟨_, rfl⟩
        have HS := Aside0.mk (show SrtB acc by rw [← hacc]; exact rowB_srt _)
        have HMEM := Aside0.mk (show ∀ s ∈ acc, s.size ≤ 24 from fun s hs => size_may (badAny_may HN.out s ((mem_rowB (l0.take k) s).mp (by rw [hacc]; exact hs))))
        have ho0 := HO0.out.1
        have hll := HO0.out.2
        rw [hacc] at ho0 hll hst
        have HO := Aside0.mk ho0
        have HAL := Aside0.mk hll
        have HST := Aside0.mk hst
        obtain ⟨A4, c4, e4⟩ := Kd.R_slice HO.out
        subst e4
        clear hlt hxx ht hst hm hacc ho0 hll HO0
        go_wp2_with (go_at_call 30; (with_reducible refine (twoslotref21_May.calls x true _ HM.out).mono ?_); rintro e w1 ⟨rfl, hd⟩; have hb := hd.below; have n1_ := Aside0.mk (Kd.R_below HO.out hb); have n2_ := Aside0.mk (below_step HB.out hb); clear HO HB hx; have HO := n1_; have HB := n2_; clear n1_ n2_ hb hd)
        have HP := Aside0.mk (posB_le acc x)
        obtain ⟨gkO, hgkO⟩ : ∃ g, g = gk - 1 := ⟨_, rfl⟩
        have HGK := Aside0.mk (show gkO = gk - 1 ∧ (0 < gk ∨ l0.length ≤ k) from ⟨hgkO, by have := AX.out; omega⟩)
        clear hgkO
        go_loopg [6, 7] (acc.length + 1) (fun kq v6 v7 wq => ∃ (lo hi : Nat), v6 = .int .i64 (lo : Int) ∧ v7 = .int .i64 (hi : Int) ∧ Aside0 (lo ≤ posB acc x ∧ posB acc x ≤ hi ∧ hi ≤ acc.length ∧ hi - lo ≤ kq) ∧ Aside0 (Below w1.heap.size w1 wq))
        case atStart => exact ⟨0, acc.length, rfl, rfl, Aside0.mk ⟨by omega, HP.out, by omega, by omega⟩, Aside0.mk (Below.refl _ _)⟩
        case round =>
          obtain ⟨lo, hi, rfl, rfl, BX, HB2⟩ := hrel
          have HO2 := Aside0.mk (Kd.R_below HO.out HB2.out)
          have HBB := Aside0.mk (below_step HB.out HB2.out)
          by_cases hlh : lo < hi
          · have hpos : 0 < acc.length := by have := BX.out; omega
            obtain ⟨g, cap, e7, hg0, hgl, _⟩ := Kd.R_form HO2.out hpos
            injection e7 with ea en ec
            subst ea
            subst ec
            have hmE : wrap64 (Int.tdiv (wrap64 ((lo : Int) + (hi : Int))) 2) = (((lo + hi) / 2 : Nat) : Int) := by
              have := BX.out
              have := HL.out
              have := HAL.out
              have := AX.out
              rw [show wrap64 ((lo : Int) + (hi : Int)) = ((lo + hi : Nat) : Int) by unfold wrap64; omega]
              rw [Int.tdiv_eq_ediv_of_nonneg (by omega)]
              unfold wrap64
              omega
            obtain ⟨m, hmm⟩ : ∃ m, (lo + hi) / 2 = m := ⟨_, rfl⟩
            rw [hmm] at hmE
            have HME := Aside0.mk hmE
            have hml : m < acc.length := by have := BX.out; omega
            have HMB := Aside0.mk (show lo ≤ m ∧ m < hi by omega)
            have hpi := posB_iff HS.out x hml
            obtain ⟨y, hy⟩ : ∃ y, acc[m] = y := ⟨_, rfl⟩
            have hcy := (Kd.R_cell ByteArray.empty HO2.out (m : Int) (by omega) (by omega)).1
            rw [Int.toNat_natCast, show rdOf ByteArray.empty acc (m : Int) = y by rw [← hy]; simp [rdOf, hml]] at hcy
            rw [hy] at hpi
            have HYS := Aside0.mk (show y.size ≤ 24 from HMEM.out y (by rw [← hy]; exact List.getElem_mem hml))
            obtain ⟨q, hq⟩ : ∃ q, lessB y x = q := ⟨_, rfl⟩
            rw [hq] at hpi
            have HPI := Aside0.mk hpi
            have HLE := Aside0.mk (show twoslotref21_Less.f 2000 y x = some q by rw [less_ev y x (by have := HYS.out; omega) (by have := size_may HMM.out; omega) 2000 (by have := HYS.out; omega), hq])
            have hcx := HX0.out _ HBB.out
            have d1 : decide ((lo : Int) < (hi : Int)) = true := decide_eq_true (by omega)
            have d2 : decide (lo < hi) = true := decide_eq_true hlh
            have d3 : decide ((m : Int) < (acc.length : Int)) = true := decide_eq_true (by omega)
            have d4 : (m < acc.length) = True := eq_true hml
            clear hmE hpi hq hy hmm hml hpos hg0 hgl en
            have HLH := Aside0.mk hlh
            clear hlh
            go_wp2_with (fail)
            rw [HME.out]
            clear HB
            have HB := HB2
            
            have hs : Below wr.heap.size wr (World.drew wr) := below_drew1 (Below.refl _ _)
            have SZ21 := Aside0.mk (show wr.heap.size ≤ (World.drew wr).heap.size from hs.size)
            
            have n_ := Aside0.mk (below_step HB.out hs)
            clear HB
            have HB := n_
            clear n_ hs
            refine start_ (n := 10) (S := fun w' => w'.cell? ⟨g, m, none⟩ = some (.string y) ∧ w'.cell? (ad.add k) = some (.string x)) (ds := [8]) #[false, false, false, false, false, false, false, false, false, false] (by kernel_rfl) rfl rfl ⟨(pw_cell_below (below_drew1 (Below.refl wr.heap.size wr)) hcy), (pw_cell_below (below_drew1 (Below.refl wr.heap.size wr)) hcx)⟩ (fun hHeld => ?_)
            generalize World.drew wr = w21 at HB  SZ21 hHeld ⊢
            refine pure_ (i := 0) (N := some 34) (v := ?_) (a' := ?_) #[true, false, false, false, false, false, false, false, false, false] rfl rfl (by kernel_rfl) (fun _ _ _ h => h) (Or.inl ⟨by rfl, ?_⟩) ?_ ?_
            rotate_left
            · intro w'
              go_simp
              with_reducible rfl
            rotate_left
            · simp only [Act.put, List.setIfInBounds_toArray, List.set_cons_zero, List.set_cons_succ, i64_w, i32_w]
              rfl
            refine pure_ (i := 1) (N := some 35) (v := ?_) (a' := ?_) #[true, true, false, false, false, false, false, false, false, false] rfl rfl (by kernel_rfl) (fun _ _ _ h => h) (Or.inl ⟨by rfl, ?_⟩) ?_ ?_
            rotate_left
            · intro w'
              go_simp
              with_reducible rfl
            rotate_left
            · simp only [Act.put, List.setIfInBounds_toArray, List.set_cons_zero, List.set_cons_succ, i64_w, i32_w]
              rfl
            refine pure_ (i := 2) (N := some 36) (v := ?_) (a' := ?_) #[true, true, true, false, false, false, false, false, false, false] rfl rfl (by kernel_rfl) (fun _ _ _ h => h) (Or.inl ⟨by rfl, ?_⟩) ?_ ?_
            rotate_left
            · intro w'
              go_simp
              with_reducible rfl
            rotate_left
            · simp only [Act.put, List.setIfInBounds_toArray, List.set_cons_zero, List.set_cons_succ, i64_w, i32_w]
              rfl
            refine pure_ (i := 4) (N := some 38) (v := ?_) (a' := ?_) #[true, true, true, false, true, false, false, false, false, false] rfl rfl (by kernel_rfl) (fun _ _ _ h => h) (Or.inl ⟨by rfl, ?_⟩) ?_ ?_
            rotate_left
            · intro w'
              go_simp
              with_reducible rfl
            rotate_left
            · simp only [Act.put, List.setIfInBounds_toArray, List.set_cons_zero, List.set_cons_succ, i64_w, i32_w]
              rfl
            refine pure_ (i := 5) (N := some 39) (v := ?_) (a' := ?_) #[true, true, true, false, true, true, false, false, false, false] rfl rfl (by kernel_rfl) (fun _ _ _ h => h) (Or.inl ⟨by rfl, ?_⟩) ?_ ?_
            rotate_left
            · intro w'
              go_simp
              with_reducible rfl
            rotate_left
            · simp only [Act.put, List.setIfInBounds_toArray, List.set_cons_zero, List.set_cons_succ, i64_w, i32_w]
              rfl
            refine pure_ (i := 6) (N := some 40) (v := ?_) (a' := ?_) #[true, true, true, false, true, true, true, false, false, false] rfl rfl (by kernel_rfl) (fun _ _ _ h => h) (Or.inl ⟨by rfl, ?_⟩) ?_ ?_
            rotate_left
            · intro w'
              go_simp
              with_reducible rfl
            rotate_left
            · simp only [Act.put, List.setIfInBounds_toArray, List.set_cons_zero, List.set_cons_succ, i64_w, i32_w]
              rfl
            refine take_ (i := 3) (N := some 37) (v := ?_) (a' := ?_) #[true, true, true, true, true, true, true, false, false, false] rfl rfl (by kernel_rfl) (fun _ _ _ h => h) (Or.inl ⟨by rfl, ?_⟩) hHeld ?_ ?_
            rotate_left
            · rintro w' ⟨s0, s1⟩
              go_simp
              with_reducible rfl
            rotate_left
            · simp only [Act.put, List.setIfInBounds_toArray, List.set_cons_zero, List.set_cons_succ, i64_w, i32_w]
              rfl
            refine take_ (i := 7) (N := some 41) (v := ?_) (a' := ?_) #[true, true, true, true, true, true, true, true, false, false] rfl rfl (by kernel_rfl) (fun _ _ _ h => h) (Or.inl ⟨by rfl, ?_⟩) hHeld ?_ ?_
            rotate_left
            · rintro w' ⟨s0, s1⟩
              go_simp
              with_reducible rfl
            rotate_left
            · simp only [Act.put, List.setIfInBounds_toArray, List.set_cons_zero, List.set_cons_succ, i64_w, i32_w]
              rfl
            refine last_ (i := 8) (N := some 42) #[true, true, true, true, true, true, true, true, true, false] rfl rfl (by kernel_rfl) (by decide) (fun K hK => ?_)
            refine goes_ Tryd.func21 (by kernel_rfl) rfl #[.string y, .string x] (by rfl) rfl rfl (by simp only [List.map_toArray, List.map_cons, List.map_nil]; rfl) ?_
            with_reducible refine (twoslotref21_Less.calls 2000 y x q _ HLE.out).mono ?_
            rintro e w22 ⟨rfl, hd⟩
            refine ⟨_, rfl, ?_⟩
            have hb := hd.below
            have hs : Below w21.heap.size w21 w22 := below_step (by repeat (first | exact Below.refl _ _ | apply below_alloc | apply pw_below_drewN | apply below_drew1)) hb
            have hl : w21.heap.size ≤ _ := below_size (w := w21) (by repeat (first | exact Below.refl _ _ | apply below_alloc | apply pw_below_drewN | apply below_drew1))
            have SZ22 := Aside0.mk (show w21.heap.size ≤ w22.heap.size from hs.size)
            have n_ := Aside0.mk (below_step HB.out hs)
            clear HB
            have HB := n_
            clear n_ hs hb
            (try clear hl)
            refine hK.out _ _ ?_
            clear hK K
            refine norm_ (a' := ?_) ?_ ?_
            rotate_left
            · show Act.put _ (some 42) _ = _
              simp only [Act.put, List.setIfInBounds_toArray, List.set_cons_zero, List.set_cons_succ, i64_w, i32_w]
              rfl
            refine pure_ (i := 9) (N := some 9) (v := ?_) (a' := ?_) #[true, true, true, true, true, true, true, true, true, true] rfl rfl (by kernel_rfl) (fun _ _ _ h => h) (Or.inl ⟨by rfl, ?_⟩) ?_ ?_
            rotate_left
            · intro w'
              go_simp
              with_reducible rfl
            rotate_left
            · simp only [Act.put, List.setIfInBounds_toArray, List.set_cons_zero, List.set_cons_succ, i64_w, i32_w]
              rfl
            refine done_ (by kernel_rfl) ?_
            
            cases q
            · go_wp2_with (fail)
              go_roundg (gk - 1)
              case measure => have := BX.out; have := HLH.out; omega
              case rel =>
                have h1 := BX.out
                have h2 := HMB.out
                have h3 := HPI.out
                exact ⟨lo, m, rfl, rfl, Aside0.mk ⟨h1.1, by simp at h3; omega, by omega, by omega⟩, HB⟩
            · go_wp2_with (fail)
              go_roundg (gk - 1)
              case measure => have := BX.out; have := HLH.out; omega
              case rel =>
                have h1 := BX.out
                have h2 := HMB.out
                have h3 := HPI.out
                have h4 := HAL.out
                have h5 := HL.out
                have h6 := AX.out
                exact ⟨m + 1, hi, by rw [show wrap64 ((m : Int) + 1) = ((m + 1 : Nat) : Int) by unfold wrap64; omega], rfl, Aside0.mk ⟨by simp at h3; omega, by omega, by omega, by omega⟩, HB⟩
          · have HPP := Aside0.mk (show posB acc x = lo by have := BX.out; omega)
            have hlo : lo ≤ acc.length := by have := BX.out; omega
            have d1 : decide ((lo : Int) < (hi : Int)) = false := decide_eq_false (by omega)
            have d2 : decide (lo < hi) = false := decide_eq_false hlh
            have HLO := Aside0.mk hlo
            clear hlh
            go_wp2_with (fail)
            clear d1 d2
            have hcx := HX0.out _ HBB.out
            have hw12 : w.heap.size ≤ wr.heap.size := HBB.out.size
            have HSZ := Aside0.mk hw12
            clear hw12 hlo
            clear HB
            have HB := HBB
            clear HBB
            by_cases hge : lo < acc.length
            · obtain ⟨g, cap, e7, hg0, hgl, _⟩ := Kd.R_form HO2.out (by omega)
              injection e7 with ea en ec
              subst ea
              subst ec
              obtain ⟨y, hy⟩ : ∃ y, acc[lo] = y := ⟨_, rfl⟩
              have hcy := (Kd.R_cell ByteArray.empty HO2.out (lo : Int) (by omega) (by omega)).1
              rw [Int.toNat_natCast, show rdOf ByteArray.empty acc (lo : Int) = y by rw [← hy]; simp [rdOf, hge]] at hcy
              have d1 : decide ((lo : Int) < (acc.length : Int)) = true := decide_eq_true (by omega)
              have d2 : decide (lo < acc.length) = true := decide_eq_true hge
              have d4 : (lo < acc.length) = True := eq_true hge
              have HYY := Aside0.mk (show acc[lo]? = some y by rw [List.getElem?_eq_getElem hge, hy])
              clear hg0 hgl en hy
              by_cases hxy : y = x
              · subst hxy
                have hins : insB acc y = acc := by unfold insB; rw [HPP.out, if_pos HYY.out]
                have d6 : (y.toList == y.toList) = true := by simp
                have HINS := Aside0.mk hins
                clear hins hge
                have HO3 := Aside0.mk (Kd.R_below HO2.out (below_drew1 (Below.refl wr.heap.size wr)))
                
                have hs : Below wr.heap.size wr (World.drew wr) := below_drew1 (Below.refl _ _)
                have SZ23 := Aside0.mk (show wr.heap.size ≤ (World.drew wr).heap.size from hs.size)
                
                have n_ := Aside0.mk (below_step HB.out hs)
                clear HB
                have HB := n_
                clear n_ hs
                refine start_ (n := 15) (S := fun w' => w'.cell? ⟨g, lo, none⟩ = some (.string y) ∧ w'.cell? (ad.add k) = some (.string y)) (ds := []) #[false, false, false, false, false, false, false, false, false, false, false, false, false, false, false] (by kernel_rfl) rfl rfl ⟨(pw_cell_below (below_drew1 (Below.refl wr.heap.size wr)) hcy), (pw_cell_below (below_drew1 (Below.refl wr.heap.size wr)) hcx)⟩ (fun hHeld => ?_)
                generalize World.drew wr = w23 at HB HO3 SZ23 hHeld ⊢
                refine pure_ (i := 0) (N := some 47) (v := ?_) (a' := ?_) #[true, false, false, false, false, false, false, false, false, false, false, false, false, false, false] rfl rfl (by kernel_rfl) (fun _ _ _ h => h) (Or.inl ⟨by rfl, ?_⟩) ?_ ?_
                rotate_left
                · intro w'
                  go_simp
                  with_reducible rfl
                rotate_left
                · simp only [Act.put, List.setIfInBounds_toArray, List.set_cons_zero, List.set_cons_succ, i64_w, i32_w]
                  rfl
                refine pure_ (i := 1) (N := some 48) (v := ?_) (a' := ?_) #[true, true, false, false, false, false, false, false, false, false, false, false, false, false, false] rfl rfl (by kernel_rfl) (fun _ _ _ h => h) (Or.inl ⟨by rfl, ?_⟩) ?_ ?_
                rotate_left
                · intro w'
                  go_simp
                  with_reducible rfl
                rotate_left
                · simp only [Act.put, List.setIfInBounds_toArray, List.set_cons_zero, List.set_cons_succ, i64_w, i32_w]
                  rfl
                refine pure_ (i := 2) (N := some 49) (v := ?_) (a' := ?_) #[true, true, true, false, false, false, false, false, false, false, false, false, false, false, false] rfl rfl (by kernel_rfl) (fun _ _ _ h => h) (Or.inl ⟨by rfl, ?_⟩) ?_ ?_
                rotate_left
                · intro w'
                  go_simp
                  with_reducible rfl
                rotate_left
                · simp only [Act.put, List.setIfInBounds_toArray, List.set_cons_zero, List.set_cons_succ, i64_w, i32_w]
                  rfl
                refine pure_ (i := 3) (N := some 50) (v := ?_) (a' := ?_) #[true, true, true, true, false, false, false, false, false, false, false, false, false, false, false] rfl rfl (by kernel_rfl) (fun _ _ _ h => h) (Or.inl ⟨by rfl, ?_⟩) ?_ ?_
                rotate_left
                · intro w'
                  go_simp
                  with_reducible rfl
                rotate_left
                · simp only [Act.put, List.setIfInBounds_toArray, List.set_cons_zero, List.set_cons_succ, i64_w, i32_w]
                  rfl
                refine pure_ (i := 4) (N := some 51) (v := ?_) (a' := ?_) #[true, true, true, true, true, false, false, false, false, false, false, false, false, false, false] rfl rfl (by kernel_rfl) (fun _ _ _ h => h) (Or.inl ⟨by rfl, ?_⟩) ?_ ?_
                rotate_left
                · intro w'
                  go_simp
                  with_reducible rfl
                rotate_left
                · simp only [Act.put, List.setIfInBounds_toArray, List.set_cons_zero, List.set_cons_succ, i64_w, i32_w]
                  rfl
                refine pure_ (i := 5) (N := some 52) (v := ?_) (a' := ?_) #[true, true, true, true, true, true, false, false, false, false, false, false, false, false, false] rfl rfl (by kernel_rfl) (fun _ _ _ h => h) (Or.inl ⟨by rfl, ?_⟩) ?_ ?_
                rotate_left
                · intro w'
                  go_simp
                  with_reducible rfl
                rotate_left
                · simp only [Act.put, List.setIfInBounds_toArray, List.set_cons_zero, List.set_cons_succ, i64_w, i32_w]
                  rfl
                refine pure_ (i := 6) (N := some 53) (v := ?_) (a' := ?_) #[true, true, true, true, true, true, true, false, false, false, false, false, false, false, false] rfl rfl (by kernel_rfl) (fun _ _ _ h => h) (Or.inl ⟨by rfl, ?_⟩) ?_ ?_
                rotate_left
                · intro w'
                  go_simp
                  with_reducible rfl
                rotate_left
                · simp only [Act.put, List.setIfInBounds_toArray, List.set_cons_zero, List.set_cons_succ, i64_w, i32_w]
                  rfl
                refine pure_ (i := 7) (N := some 54) (v := ?_) (a' := ?_) #[true, true, true, true, true, true, true, true, false, false, false, false, false, false, false] rfl rfl (by kernel_rfl) (fun _ _ _ h => h) (Or.inl ⟨by rfl, ?_⟩) ?_ ?_
                rotate_left
                · intro w'
                  go_simp
                  with_reducible rfl
                rotate_left
                · simp only [Act.put, List.setIfInBounds_toArray, List.set_cons_zero, List.set_cons_succ, i64_w, i32_w]
                  rfl
                refine pure_ (i := 9) (N := some 56) (v := ?_) (a' := ?_) #[true, true, true, true, true, true, true, true, false, true, false, false, false, false, false] rfl rfl (by kernel_rfl) (fun _ _ _ h => h) (Or.inl ⟨by rfl, ?_⟩) ?_ ?_
                rotate_left
                · intro w'
                  go_simp
                  with_reducible rfl
                rotate_left
                · simp only [Act.put, List.setIfInBounds_toArray, List.set_cons_zero, List.set_cons_succ, i64_w, i32_w]
                  rfl
                refine pure_ (i := 10) (N := some 57) (v := ?_) (a' := ?_) #[true, true, true, true, true, true, true, true, false, true, true, false, false, false, false] rfl rfl (by kernel_rfl) (fun _ _ _ h => h) (Or.inl ⟨by rfl, ?_⟩) ?_ ?_
                rotate_left
                · intro w'
                  go_simp
                  with_reducible rfl
                rotate_left
                · simp only [Act.put, List.setIfInBounds_toArray, List.set_cons_zero, List.set_cons_succ, i64_w, i32_w]
                  rfl
                refine pure_ (i := 11) (N := some 58) (v := ?_) (a' := ?_) #[true, true, true, true, true, true, true, true, false, true, true, true, false, false, false] rfl rfl (by kernel_rfl) (fun _ _ _ h => h) (Or.inl ⟨by rfl, ?_⟩) ?_ ?_
                rotate_left
                · intro w'
                  go_simp
                  with_reducible rfl
                rotate_left
                · simp only [Act.put, List.setIfInBounds_toArray, List.set_cons_zero, List.set_cons_succ, i64_w, i32_w]
                  rfl
                refine take_ (i := 8) (N := some 55) (v := ?_) (a' := ?_) #[true, true, true, true, true, true, true, true, true, true, true, true, false, false, false] rfl rfl (by kernel_rfl) (fun _ _ _ h => h) (Or.inl ⟨by rfl, ?_⟩) hHeld ?_ ?_
                rotate_left
                · rintro w' ⟨s0, s1⟩
                  go_simp
                  with_reducible rfl
                rotate_left
                · simp only [Act.put, List.setIfInBounds_toArray, List.set_cons_zero, List.set_cons_succ, i64_w, i32_w]
                  rfl
                refine take_ (i := 12) (N := some 59) (v := ?_) (a' := ?_) #[true, true, true, true, true, true, true, true, true, true, true, true, true, false, false] rfl rfl (by kernel_rfl) (fun _ _ _ h => h) (Or.inl ⟨by rfl, ?_⟩) hHeld ?_ ?_
                rotate_left
                · rintro w' ⟨s0, s1⟩
                  go_simp
                  with_reducible rfl
                rotate_left
                · simp only [Act.put, List.setIfInBounds_toArray, List.set_cons_zero, List.set_cons_succ, i64_w, i32_w]
                  rfl
                refine pure_ (i := 13) (N := some 60) (v := ?_) (a' := ?_) #[true, true, true, true, true, true, true, true, true, true, true, true, true, true, false] rfl rfl (by kernel_rfl) (fun _ _ _ h => h) (Or.inl ⟨by rfl, ?_⟩) ?_ ?_
                rotate_left
                · intro w'
                  go_simp
                  with_reducible rfl
                rotate_left
                · simp only [Act.put, List.setIfInBounds_toArray, List.set_cons_zero, List.set_cons_succ, i64_w, i32_w]
                  rfl
                refine pure_ (i := 14) (N := some 61) (v := ?_) (a' := ?_) #[true, true, true, true, true, true, true, true, true, true, true, true, true, true, true] rfl rfl (by kernel_rfl) (fun _ _ _ h => h) (Or.inl ⟨by rfl, ?_⟩) ?_ ?_
                rotate_left
                · intro w'
                  go_simp
                  with_reducible rfl
                rotate_left
                · simp only [Act.put, List.setIfInBounds_toArray, List.set_cons_zero, List.set_cons_succ, i64_w, i32_w]
                  rfl
                refine done_ (by kernel_rfl) ?_
                
                go_wp2_with (fail)
                go_roundg gkO
                case measure => have := HGK.out; have := HK.out; omega
                case rel =>
                  have h1 := HK.out
                  have h2 := AX.out
                  have h3 := HL.out
                  refine ⟨k + 1, by rw [show wrap64 ((k : Int) + 1) = ((k + 1 : Nat) : Int) by unfold wrap64; omega], Aside0.mk ⟨by omega, by have := HGK.out; omega⟩, Aside0.mk (by rw [HT.out, HN.out, HMM.out]; rfl), Aside0.mk ⟨?_, ?_⟩, HB⟩
                  · rw [HST.out, HINS.out]
                    exact HO3.out
                  · rw [HST.out, HINS.out]
                    have := HAL.out
                    omega
              · have hins : insB acc x = acc.take lo ++ [x] ++ acc.drop lo := by unfold insB; rw [HPP.out, if_neg (by rw [HYY.out]; intro h; injection h with h; exact hxy h)]
                have d6 : (y.toList == x.toList) = false := by rw [beq_eq_false_iff_ne]; intro h; exact hxy (toList_inj h)
                have HINS := Aside0.mk hins
                clear hins hge hxy
                have HO3 := Aside0.mk (Kd.R_below HO2.out (below_drew1 (Below.refl wr.heap.size wr)))
                
                have hs : Below wr.heap.size wr (World.drew wr) := below_drew1 (Below.refl _ _)
                have SZ24 := Aside0.mk (show wr.heap.size ≤ (World.drew wr).heap.size from hs.size)
                
                have n_ := Aside0.mk (below_step HB.out hs)
                clear HB
                have HB := n_
                clear n_ hs
                refine start_ (n := 15) (S := fun w' => w'.cell? ⟨g, lo, none⟩ = some (.string y) ∧ w'.cell? (ad.add k) = some (.string x)) (ds := []) #[false, false, false, false, false, false, false, false, false, false, false, false, false, false, false] (by kernel_rfl) rfl rfl ⟨(pw_cell_below (below_drew1 (Below.refl wr.heap.size wr)) hcy), (pw_cell_below (below_drew1 (Below.refl wr.heap.size wr)) hcx)⟩ (fun hHeld => ?_)
                generalize World.drew wr = w24 at HB HO3 SZ24 hHeld ⊢
                refine pure_ (i := 0) (N := some 47) (v := ?_) (a' := ?_) #[true, false, false, false, false, false, false, false, false, false, false, false, false, false, false] rfl rfl (by kernel_rfl) (fun _ _ _ h => h) (Or.inl ⟨by rfl, ?_⟩) ?_ ?_
                rotate_left
                · intro w'
                  go_simp
                  with_reducible rfl
                rotate_left
                · simp only [Act.put, List.setIfInBounds_toArray, List.set_cons_zero, List.set_cons_succ, i64_w, i32_w]
                  rfl
                refine pure_ (i := 1) (N := some 48) (v := ?_) (a' := ?_) #[true, true, false, false, false, false, false, false, false, false, false, false, false, false, false] rfl rfl (by kernel_rfl) (fun _ _ _ h => h) (Or.inl ⟨by rfl, ?_⟩) ?_ ?_
                rotate_left
                · intro w'
                  go_simp
                  with_reducible rfl
                rotate_left
                · simp only [Act.put, List.setIfInBounds_toArray, List.set_cons_zero, List.set_cons_succ, i64_w, i32_w]
                  rfl
                refine pure_ (i := 2) (N := some 49) (v := ?_) (a' := ?_) #[true, true, true, false, false, false, false, false, false, false, false, false, false, false, false] rfl rfl (by kernel_rfl) (fun _ _ _ h => h) (Or.inl ⟨by rfl, ?_⟩) ?_ ?_
                rotate_left
                · intro w'
                  go_simp
                  with_reducible rfl
                rotate_left
                · simp only [Act.put, List.setIfInBounds_toArray, List.set_cons_zero, List.set_cons_succ, i64_w, i32_w]
                  rfl
                refine pure_ (i := 3) (N := some 50) (v := ?_) (a' := ?_) #[true, true, true, true, false, false, false, false, false, false, false, false, false, false, false] rfl rfl (by kernel_rfl) (fun _ _ _ h => h) (Or.inl ⟨by rfl, ?_⟩) ?_ ?_
                rotate_left
                · intro w'
                  go_simp
                  with_reducible rfl
                rotate_left
                · simp only [Act.put, List.setIfInBounds_toArray, List.set_cons_zero, List.set_cons_succ, i64_w, i32_w]
                  rfl
                refine pure_ (i := 4) (N := some 51) (v := ?_) (a' := ?_) #[true, true, true, true, true, false, false, false, false, false, false, false, false, false, false] rfl rfl (by kernel_rfl) (fun _ _ _ h => h) (Or.inl ⟨by rfl, ?_⟩) ?_ ?_
                rotate_left
                · intro w'
                  go_simp
                  with_reducible rfl
                rotate_left
                · simp only [Act.put, List.setIfInBounds_toArray, List.set_cons_zero, List.set_cons_succ, i64_w, i32_w]
                  rfl
                refine pure_ (i := 5) (N := some 52) (v := ?_) (a' := ?_) #[true, true, true, true, true, true, false, false, false, false, false, false, false, false, false] rfl rfl (by kernel_rfl) (fun _ _ _ h => h) (Or.inl ⟨by rfl, ?_⟩) ?_ ?_
                rotate_left
                · intro w'
                  go_simp
                  with_reducible rfl
                rotate_left
                · simp only [Act.put, List.setIfInBounds_toArray, List.set_cons_zero, List.set_cons_succ, i64_w, i32_w]
                  rfl
                refine pure_ (i := 6) (N := some 53) (v := ?_) (a' := ?_) #[true, true, true, true, true, true, true, false, false, false, false, false, false, false, false] rfl rfl (by kernel_rfl) (fun _ _ _ h => h) (Or.inl ⟨by rfl, ?_⟩) ?_ ?_
                rotate_left
                · intro w'
                  go_simp
                  with_reducible rfl
                rotate_left
                · simp only [Act.put, List.setIfInBounds_toArray, List.set_cons_zero, List.set_cons_succ, i64_w, i32_w]
                  rfl
                refine pure_ (i := 7) (N := some 54) (v := ?_) (a' := ?_) #[true, true, true, true, true, true, true, true, false, false, false, false, false, false, false] rfl rfl (by kernel_rfl) (fun _ _ _ h => h) (Or.inl ⟨by rfl, ?_⟩) ?_ ?_
                rotate_left
                · intro w'
                  go_simp
                  with_reducible rfl
                rotate_left
                · simp only [Act.put, List.setIfInBounds_toArray, List.set_cons_zero, List.set_cons_succ, i64_w, i32_w]
                  rfl
                refine pure_ (i := 9) (N := some 56) (v := ?_) (a' := ?_) #[true, true, true, true, true, true, true, true, false, true, false, false, false, false, false] rfl rfl (by kernel_rfl) (fun _ _ _ h => h) (Or.inl ⟨by rfl, ?_⟩) ?_ ?_
                rotate_left
                · intro w'
                  go_simp
                  with_reducible rfl
                rotate_left
                · simp only [Act.put, List.setIfInBounds_toArray, List.set_cons_zero, List.set_cons_succ, i64_w, i32_w]
                  rfl
                refine pure_ (i := 10) (N := some 57) (v := ?_) (a' := ?_) #[true, true, true, true, true, true, true, true, false, true, true, false, false, false, false] rfl rfl (by kernel_rfl) (fun _ _ _ h => h) (Or.inl ⟨by rfl, ?_⟩) ?_ ?_
                rotate_left
                · intro w'
                  go_simp
                  with_reducible rfl
                rotate_left
                · simp only [Act.put, List.setIfInBounds_toArray, List.set_cons_zero, List.set_cons_succ, i64_w, i32_w]
                  rfl
                refine pure_ (i := 11) (N := some 58) (v := ?_) (a' := ?_) #[true, true, true, true, true, true, true, true, false, true, true, true, false, false, false] rfl rfl (by kernel_rfl) (fun _ _ _ h => h) (Or.inl ⟨by rfl, ?_⟩) ?_ ?_
                rotate_left
                · intro w'
                  go_simp
                  with_reducible rfl
                rotate_left
                · simp only [Act.put, List.setIfInBounds_toArray, List.set_cons_zero, List.set_cons_succ, i64_w, i32_w]
                  rfl
                refine take_ (i := 8) (N := some 55) (v := ?_) (a' := ?_) #[true, true, true, true, true, true, true, true, true, true, true, true, false, false, false] rfl rfl (by kernel_rfl) (fun _ _ _ h => h) (Or.inl ⟨by rfl, ?_⟩) hHeld ?_ ?_
                rotate_left
                · rintro w' ⟨s0, s1⟩
                  go_simp
                  with_reducible rfl
                rotate_left
                · simp only [Act.put, List.setIfInBounds_toArray, List.set_cons_zero, List.set_cons_succ, i64_w, i32_w]
                  rfl
                refine take_ (i := 12) (N := some 59) (v := ?_) (a' := ?_) #[true, true, true, true, true, true, true, true, true, true, true, true, true, false, false] rfl rfl (by kernel_rfl) (fun _ _ _ h => h) (Or.inl ⟨by rfl, ?_⟩) hHeld ?_ ?_
                rotate_left
                · rintro w' ⟨s0, s1⟩
                  go_simp
                  with_reducible rfl
                rotate_left
                · simp only [Act.put, List.setIfInBounds_toArray, List.set_cons_zero, List.set_cons_succ, i64_w, i32_w]
                  rfl
                refine pure_ (i := 13) (N := some 60) (v := ?_) (a' := ?_) #[true, true, true, true, true, true, true, true, true, true, true, true, true, true, false] rfl rfl (by kernel_rfl) (fun _ _ _ h => h) (Or.inl ⟨by rfl, ?_⟩) ?_ ?_
                rotate_left
                · intro w'
                  go_simp
                  with_reducible rfl
                rotate_left
                · simp only [Act.put, List.setIfInBounds_toArray, List.set_cons_zero, List.set_cons_succ, i64_w, i32_w]
                  rfl
                refine pure_ (i := 14) (N := some 61) (v := ?_) (a' := ?_) #[true, true, true, true, true, true, true, true, true, true, true, true, true, true, true] rfl rfl (by kernel_rfl) (fun _ _ _ h => h) (Or.inl ⟨by rfl, ?_⟩) ?_ ?_
                rotate_left
                · intro w'
                  go_simp
                  with_reducible rfl
                rotate_left
                · simp only [Act.put, List.setIfInBounds_toArray, List.set_cons_zero, List.set_cons_succ, i64_w, i32_w]
                  rfl
                refine done_ (by kernel_rfl) ?_
                
                clear d1 d2 d4 d6 hcy
                have hcx := HX0.out _ HB.out
                clear HO2
                have HO2 := HO3
                clear HO3
                -- TAIL
                skip
                have hszz : w.heap.size ≤ w24.heap.size := HB.out.size
                have HSZ3 := Aside0.mk hszz
                clear hszz
                have ho_ := Kd.own_of_R HO2.out
                have HOO := Aside0.mk (show w24.ownsRow w.heap.size 9 1 (.slice (some ⟨g, 0, none⟩) acc.length c4) (acc.map Value.string).length (acc.map Value.string) by rw [List.length_map]; exact ho_)
                clear ho_
                go_wp2_with ((with_reducible refine gate_builtin (b := .append) (xs := #[.tmp 62, .tmp 63]) rfl ?_); at_builtin; refine print_append (w0 := w) w.heap.size rfl (.tmp 62) (.tmp 63) 32 9 (.string ⟨#[]⟩) 16 rfl Tryd.underlying32 infoStr rfl (by decide) _ (acc.map Value.string) (.string ⟨#[]⟩) rfl rfl rfl HOO.out HB.out HSZ3.out (by rw [List.length_map]; have := HAL.out; have := AX.out; have := HL.out; omega) ?_; intro v9 w9 ho hb hg hat; have ho := row_one ho; obtain ⟨g, cap, e9, hbg, hgl, hcap⟩ := own_form ho; subst e9; have HO9 := Aside0.mk ho; have HB9 := Aside0.mk hb; have HG9 := Aside0.mk (And.intro hbg (And.intro hgl hcap)); clear ho hb hg hat hbg hgl hcap)
                have hcx := HX0.out _ HB9.out
                obtain ⟨D, hD1, hD2⟩ := cut_at g (acc.length + 1) cap (lo + 1) (by have := HLO.out; omega) HG9.out.2.2
                obtain ⟨D', hE1, hE2⟩ := cut_at g (acc.length + 1) cap lo (by have := HLO.out; omega) HG9.out.2.2
                have hE3 := hE2 (by have := HLO.out; have := HG9.out.2.2; omega)
                subst hE3
                clear hE2
                have HD1 := Aside0.mk hD1
                have HE1 := Aside0.mk hE1
                have HD2 := Aside0.mk hD2
                clear hD1 hE1 hD2 HB
                have HB := HB9
                clear HB9
                have HO9_ := Aside0.mk (pw_own_below HO9.out (below_drew1 (Below.refl w9.heap.size w9)))
                clear HO9
                have HO9 := HO9_
                clear HO9_
                
                have hs : Below w9.heap.size w9 (World.drew w9) := below_drew1 (Below.refl _ _)
                have SZ25 := Aside0.mk (show w9.heap.size ≤ (World.drew w9).heap.size from hs.size)
                
                have n_ := Aside0.mk (below_step HB.out hs)
                clear HB
                have HB := n_
                clear n_ hs
                refine start_ (n := 8) (S := fun w' => Sem.run Tryd.prog (Instr.slice 32 (Value.slice (some ⟨g, 0, none⟩) (acc.length + 1) cap) (some (Value.int IntKind.i64 (wrap64 ((lo : Int) + 1)))) none none) w' = .ok (.slice D (acc.length - lo) (cap - (lo + 1))) w' ∧ Sem.run Tryd.prog (Instr.slice 32 (Value.slice (some ⟨g, 0, none⟩) (acc.length + 1) cap) (some (Value.int IntKind.i64 ((lo : Int)))) none none) w' = .ok (.slice (some ⟨g, lo, none⟩) (acc.length + 1 - lo) (cap - lo)) w') (ds := [7]) #[false, false, false, false, false, false, false, false] (by kernel_rfl) rfl rfl ⟨(by rw [show wrap64 ((lo : Int) + 1) = ((lo + 1 : Nat) : Int) by have := HLO.out; have := HAL.out; have := AX.out; have := HL.out; unfold wrap64; omega]; have h := HD1.out; rw [Nat.add_sub_add_right] at h; exact h _), (HE1.out _)⟩ (fun hHeld => ?_)
                generalize World.drew w9 = w25 at HB HO9 SZ25 hHeld ⊢
                refine pure_ (i := 0) (N := some 65) (v := ?_) (a' := ?_) #[true, false, false, false, false, false, false, false] rfl rfl (by kernel_rfl) (fun _ _ _ h => h) (Or.inl ⟨by rfl, ?_⟩) ?_ ?_
                rotate_left
                · intro w'
                  go_simp
                  with_reducible rfl
                rotate_left
                · simp only [Act.put, List.setIfInBounds_toArray, List.set_cons_zero, List.set_cons_succ, i64_w, i32_w]
                  rfl
                refine pure_ (i := 1) (N := some 66) (v := ?_) (a' := ?_) #[true, true, false, false, false, false, false, false] rfl rfl (by kernel_rfl) (fun _ _ _ h => h) (Or.inl ⟨by rfl, ?_⟩) ?_ ?_
                rotate_left
                · intro w'
                  go_simp
                  with_reducible rfl
                rotate_left
                · simp only [Act.put, List.setIfInBounds_toArray, List.set_cons_zero, List.set_cons_succ, i64_w, i32_w]
                  rfl
                refine pure_ (i := 2) (N := some 67) (v := ?_) (a' := ?_) #[true, true, true, false, false, false, false, false] rfl rfl (by kernel_rfl) (fun _ _ _ h => h) (Or.inl ⟨by rfl, ?_⟩) ?_ ?_
                rotate_left
                · intro w'
                  go_simp
                  with_reducible rfl
                rotate_left
                · simp only [Act.put, List.setIfInBounds_toArray, List.set_cons_zero, List.set_cons_succ, i64_w, i32_w]
                  rfl
                refine pure_ (i := 4) (N := some 69) (v := ?_) (a' := ?_) #[true, true, true, false, true, false, false, false] rfl rfl (by kernel_rfl) (fun _ _ _ h => h) (Or.inl ⟨by rfl, ?_⟩) ?_ ?_
                rotate_left
                · intro w'
                  go_simp
                  with_reducible rfl
                rotate_left
                · simp only [Act.put, List.setIfInBounds_toArray, List.set_cons_zero, List.set_cons_succ, i64_w, i32_w]
                  rfl
                refine pure_ (i := 5) (N := some 70) (v := ?_) (a' := ?_) #[true, true, true, false, true, true, false, false] rfl rfl (by kernel_rfl) (fun _ _ _ h => h) (Or.inl ⟨by rfl, ?_⟩) ?_ ?_
                rotate_left
                · intro w'
                  go_simp
                  with_reducible rfl
                rotate_left
                · simp only [Act.put, List.setIfInBounds_toArray, List.set_cons_zero, List.set_cons_succ, i64_w, i32_w]
                  rfl
                refine take_ (i := 3) (N := some 68) (v := ?_) (a' := ?_) #[true, true, true, true, true, true, false, false] rfl rfl (by kernel_rfl) (fun _ _ _ h => h) (Or.inl ⟨by rfl, ?_⟩) hHeld ?_ ?_
                rotate_left
                · rintro w' ⟨s0, s1⟩
                  go_simp
                  with_reducible rfl
                rotate_left
                · simp only [Act.put, List.setIfInBounds_toArray, List.set_cons_zero, List.set_cons_succ, i64_w, i32_w]
                  rfl
                refine take_ (i := 6) (N := some 71) (v := ?_) (a' := ?_) #[true, true, true, true, true, true, true, false] rfl rfl (by kernel_rfl) (fun _ _ _ h => h) (Or.inl ⟨by rfl, ?_⟩) hHeld ?_ ?_
                rotate_left
                · rintro w' ⟨s0, s1⟩
                  go_simp
                  with_reducible rfl
                rotate_left
                · simp only [Act.put, List.setIfInBounds_toArray, List.set_cons_zero, List.set_cons_succ, i64_w, i32_w]
                  rfl
                refine last_ (i := 7) (N := some 72) #[true, true, true, true, true, true, true, true] rfl rfl (by kernel_rfl) (by decide) (fun K hK => ?_)
                refine value_ (w1 := w25.setCells g (lo + 1) ((acc.drop lo).map Value.string)) (v := .int .i64 ((acc.length - lo : Nat) : Int)) (by rfl) rfl ?_ ?_
                · have h := shift_run w25 w.heap.size g acc.length cap lo D acc ⟨#[]⟩ rfl HLO.out HG9.out.2.2 HD2.out HO9.out
                  go_simp
                refine hK.out _ _ ?_
                clear hK K
                refine norm_ (a' := ?_) ?_ ?_
                rotate_left
                · show Act.put _ (some 72) _ = _
                  simp only [Act.put, List.setIfInBounds_toArray, List.set_cons_zero, List.set_cons_succ, i64_w, i32_w]
                  rfl
                refine done_ (by kernel_rfl) ?_
                
                obtain ⟨hs1, hs2, hs3, hs4, hs5⟩ := shift_own w25 w.heap.size g acc.length cap lo acc ⟨#[]⟩ x rfl HLO.out HO9.out
                have HS1 := Aside0.mk hs1
                have hb5 := HB.out.grown hs5 HB.out.size (fun k hk => by injection hk with hk; subst hk; exact HG9.out.1)
                have hb2 := HB.out.grown hs2 HB.out.size (fun k hk => by injection hk with hk; subst hk; exact HG9.out.1)
                have HB2 := Aside0.mk hb2
                have hcx := HX0.out _ hb5
                clear hs1 hs2 hs5 hb5 hb2 HB
                have d3 : (lo : Int) < (acc.length : Int) + 1 := by have := HLO.out; omega
                have d4 : (lo < acc.length + 1) = True := eq_true (by have := HLO.out; omega)
                generalize w25.setCells g (lo + 1) ((acc.drop lo).map Value.string) = w40 at HS1 HB2 hs3 hs4 hcx ⊢
                go_wp2_with (fail)
                go_roundg gkO
                case measure => have := HGK.out; have := HK.out; omega
                case rel =>
                  have h1 := HK.out
                  have h2 := AX.out
                  have h3 := HL.out
                  have hi_ := HINS.out
                  refine ⟨k + 1, by rw [show wrap64 ((k : Int) + 1) = ((k + 1 : Nat) : Int) by unfold wrap64; omega], Aside0.mk ⟨by omega, by have := HGK.out; omega⟩, Aside0.mk (by rw [HT.out, HN.out, HMM.out]; rfl), Aside0.mk ⟨?_, ?_⟩, HB2⟩
                  · rw [HST.out, hi_]
                    have hl := HS1.out
                    exact Kd.R_of_own (by rw [List.length_append, List.length_append, List.length_take, List.length_drop, List.length_singleton, show min lo acc.length + 1 + (acc.length - lo) = acc.length + 1 by have := HLO.out; omega]; exact hl) (fun _ _ => trivial)
                  · rw [HST.out, hi_, List.length_append, List.length_append, List.length_take, List.length_drop, List.length_singleton]
                    have := HLO.out
                    have := HAL.out
                    omega
            · have hins : insB acc x = acc.take lo ++ [x] ++ acc.drop lo := by unfold insB; rw [HPP.out, if_neg (by rw [List.getElem?_eq_none (by omega)]; simp)]
              have d1 : decide ((lo : Int) < (acc.length : Int)) = false := decide_eq_false (by omega)
              have d2 : decide (lo < acc.length) = false := decide_eq_false hge
              have HINS := Aside0.mk hins
              clear hins hge
              have HO3 := Aside0.mk (Kd.R_below HO2.out (below_drew1 (Below.refl wr.heap.size wr)))
              
              have hs : Below wr.heap.size wr (World.drew wr) := below_drew1 (Below.refl _ _)
              have SZ26 := Aside0.mk (show wr.heap.size ≤ (World.drew wr).heap.size from hs.size)
              
              have n_ := Aside0.mk (below_step HB.out hs)
              clear HB
              have HB := n_
              clear n_ hs
              refine start_ (n := 15) (S := fun w' => w'.cell? (ad.add k) = some (.string x)) (ds := []) #[false, false, false, false, false, false, false, false, false, false, false, false, false, false, false] (by kernel_rfl) rfl rfl ((pw_cell_below (below_drew1 (Below.refl wr.heap.size wr)) hcx)) (fun hHeld => ?_)
              generalize World.drew wr = w26 at HB HO3 SZ26 hHeld ⊢
              refine pure_ (i := 0) (N := some 47) (v := ?_) (a' := ?_) #[true, false, false, false, false, false, false, false, false, false, false, false, false, false, false] rfl rfl (by kernel_rfl) (fun _ _ _ h => h) (Or.inl ⟨by rfl, ?_⟩) ?_ ?_
              rotate_left
              · intro w'
                go_simp
                with_reducible rfl
              rotate_left
              · simp only [Act.put, List.setIfInBounds_toArray, List.set_cons_zero, List.set_cons_succ, i64_w, i32_w]
                rfl
              refine pure_ (i := 1) (N := some 48) (v := ?_) (a' := ?_) #[true, true, false, false, false, false, false, false, false, false, false, false, false, false, false] rfl rfl (by kernel_rfl) (fun _ _ _ h => h) (Or.inl ⟨by rfl, ?_⟩) ?_ ?_
              rotate_left
              · intro w'
                go_simp
                with_reducible rfl
              rotate_left
              · simp only [Act.put, List.setIfInBounds_toArray, List.set_cons_zero, List.set_cons_succ, i64_w, i32_w]
                rfl
              refine pure_ (i := 2) (N := some 49) (v := ?_) (a' := ?_) #[true, true, true, false, false, false, false, false, false, false, false, false, false, false, false] rfl rfl (by kernel_rfl) (fun _ _ _ h => h) (Or.inl ⟨by rfl, ?_⟩) ?_ ?_
              rotate_left
              · intro w'
                go_simp
                with_reducible rfl
              rotate_left
              · simp only [Act.put, List.setIfInBounds_toArray, List.set_cons_zero, List.set_cons_succ, i64_w, i32_w]
                rfl
              refine pure_ (i := 3) (N := some 50) (v := ?_) (a' := ?_) #[true, true, true, true, false, false, false, false, false, false, false, false, false, false, false] rfl rfl (by kernel_rfl) (fun _ _ _ h => h) (Or.inl ⟨by rfl, ?_⟩) ?_ ?_
              rotate_left
              · intro w'
                go_simp
                with_reducible rfl
              rotate_left
              · simp only [Act.put, List.setIfInBounds_toArray, List.set_cons_zero, List.set_cons_succ, i64_w, i32_w]
                rfl
              refine pure_ (i := 4) (N := some 51) (v := ?_) (a' := ?_) #[true, true, true, true, true, false, false, false, false, false, false, false, false, false, false] rfl rfl (by kernel_rfl) (fun _ _ _ h => h) (Or.inl ⟨by rfl, ?_⟩) ?_ ?_
              rotate_left
              · intro w'
                go_simp
                with_reducible rfl
              rotate_left
              · simp only [Act.put, List.setIfInBounds_toArray, List.set_cons_zero, List.set_cons_succ, i64_w, i32_w]
                rfl
              refine pure_ (i := 5) (N := some 52) (v := undef) (a' := ?_) #[true, true, true, true, true, true, false, false, false, false, false, false, false, false, false] rfl rfl (by kernel_rfl) (fun _ _ _ h => h) (Or.inr ⟨by rfl, rfl⟩) ?_ ?_
              rotate_left
              · simp only [Act.put, List.setIfInBounds_toArray, List.set_cons_zero, List.set_cons_succ, i64_w, i32_w]
                rfl
              refine pure_ (i := 6) (N := some 53) (v := undef) (a' := ?_) #[true, true, true, true, true, true, true, false, false, false, false, false, false, false, false] rfl rfl (by kernel_rfl) (fun _ _ _ h => h) (Or.inr ⟨by rfl, rfl⟩) ?_ ?_
              rotate_left
              · simp only [Act.put, List.setIfInBounds_toArray, List.set_cons_zero, List.set_cons_succ, i64_w, i32_w]
                rfl
              refine pure_ (i := 7) (N := some 54) (v := undef) (a' := ?_) #[true, true, true, true, true, true, true, true, false, false, false, false, false, false, false] rfl rfl (by kernel_rfl) (fun _ _ _ h => h) (Or.inr ⟨by rfl, rfl⟩) ?_ ?_
              rotate_left
              · simp only [Act.put, List.setIfInBounds_toArray, List.set_cons_zero, List.set_cons_succ, i64_w, i32_w]
                rfl
              refine pure_ (i := 8) (N := some 55) (v := undef) (a' := ?_) #[true, true, true, true, true, true, true, true, true, false, false, false, false, false, false] rfl rfl (by kernel_rfl) (fun _ _ _ h => h) (Or.inr ⟨by rfl, rfl⟩) ?_ ?_
              rotate_left
              · simp only [Act.put, List.setIfInBounds_toArray, List.set_cons_zero, List.set_cons_succ, i64_w, i32_w]
                rfl
              refine pure_ (i := 9) (N := some 56) (v := undef) (a' := ?_) #[true, true, true, true, true, true, true, true, true, true, false, false, false, false, false] rfl rfl (by kernel_rfl) (fun _ _ _ h => h) (Or.inr ⟨by rfl, rfl⟩) ?_ ?_
              rotate_left
              · simp only [Act.put, List.setIfInBounds_toArray, List.set_cons_zero, List.set_cons_succ, i64_w, i32_w]
                rfl
              refine pure_ (i := 10) (N := some 57) (v := undef) (a' := ?_) #[true, true, true, true, true, true, true, true, true, true, true, false, false, false, false] rfl rfl (by kernel_rfl) (fun _ _ _ h => h) (Or.inr ⟨by rfl, rfl⟩) ?_ ?_
              rotate_left
              · simp only [Act.put, List.setIfInBounds_toArray, List.set_cons_zero, List.set_cons_succ, i64_w, i32_w]
                rfl
              refine pure_ (i := 11) (N := some 58) (v := undef) (a' := ?_) #[true, true, true, true, true, true, true, true, true, true, true, true, false, false, false] rfl rfl (by kernel_rfl) (fun _ _ _ h => h) (Or.inr ⟨by rfl, rfl⟩) ?_ ?_
              rotate_left
              · simp only [Act.put, List.setIfInBounds_toArray, List.set_cons_zero, List.set_cons_succ, i64_w, i32_w]
                rfl
              refine pure_ (i := 12) (N := some 59) (v := undef) (a' := ?_) #[true, true, true, true, true, true, true, true, true, true, true, true, true, false, false] rfl rfl (by kernel_rfl) (fun _ _ _ h => h) (Or.inr ⟨by rfl, rfl⟩) ?_ ?_
              rotate_left
              · simp only [Act.put, List.setIfInBounds_toArray, List.set_cons_zero, List.set_cons_succ, i64_w, i32_w]
                rfl
              refine pure_ (i := 13) (N := some 60) (v := undef) (a' := ?_) #[true, true, true, true, true, true, true, true, true, true, true, true, true, true, false] rfl rfl (by kernel_rfl) (fun _ _ _ h => h) (Or.inr ⟨by rfl, rfl⟩) ?_ ?_
              rotate_left
              · simp only [Act.put, List.setIfInBounds_toArray, List.set_cons_zero, List.set_cons_succ, i64_w, i32_w]
                rfl
              refine pure_ (i := 14) (N := some 61) (v := ?_) (a' := ?_) #[true, true, true, true, true, true, true, true, true, true, true, true, true, true, true] rfl rfl (by kernel_rfl) (fun _ _ _ h => h) (Or.inl ⟨by rfl, ?_⟩) ?_ ?_
              rotate_left
              · intro w'
                go_simp
                with_reducible rfl
              rotate_left
              · simp only [Act.put, List.setIfInBounds_toArray, List.set_cons_zero, List.set_cons_succ, i64_w, i32_w]
                rfl
              refine done_ (by kernel_rfl) ?_
              
              clear d1 d2
              have hcx := HX0.out _ HB.out
              clear HO2
              have HO2 := HO3
              clear HO3
              have hszz : w.heap.size ≤ w26.heap.size := HB.out.size
              have HSZ3 := Aside0.mk hszz
              clear hszz
              have ho_ := Kd.own_of_R HO2.out
              have HOO := Aside0.mk (show w26.ownsRow w.heap.size 9 1 (.slice A4 acc.length c4) (acc.map Value.string).length (acc.map Value.string) by rw [List.length_map]; exact ho_)
              clear ho_
              go_wp2_with ((with_reducible refine gate_builtin (b := .append) (xs := #[.tmp 62, .tmp 63]) rfl ?_); at_builtin; refine print_append (w0 := w) w.heap.size rfl (.tmp 62) (.tmp 63) 32 9 (.string ⟨#[]⟩) 16 rfl Tryd.underlying32 infoStr rfl (by decide) _ (acc.map Value.string) (.string ⟨#[]⟩) rfl rfl rfl HOO.out HB.out HSZ3.out (by rw [List.length_map]; have := HAL.out; have := AX.out; have := HL.out; omega) ?_; intro v9 w9 ho hb hg hat; have ho := row_one ho; obtain ⟨g, cap, e9, hbg, hgl, hcap⟩ := own_form ho; subst e9; have HO9 := Aside0.mk ho; have HB9 := Aside0.mk hb; have HG9 := Aside0.mk (And.intro hbg (And.intro hgl hcap)); clear ho hb hg hat hbg hgl hcap)
              have hcx := HX0.out _ HB9.out
              obtain ⟨D, hD1, hD2⟩ := cut_at g (acc.length + 1) cap (lo + 1) (by have := HLO.out; omega) HG9.out.2.2
              obtain ⟨D', hE1, hE2⟩ := cut_at g (acc.length + 1) cap lo (by have := HLO.out; omega) HG9.out.2.2
              have hE3 := hE2 (by have := HLO.out; have := HG9.out.2.2; omega)
              subst hE3
              clear hE2
              have HD1 := Aside0.mk hD1
              have HE1 := Aside0.mk hE1
              have HD2 := Aside0.mk hD2
              clear hD1 hE1 hD2 HB
              have HB := HB9
              clear HB9
              have HO9_ := Aside0.mk (pw_own_below HO9.out (below_drew1 (Below.refl w9.heap.size w9)))
              clear HO9
              have HO9 := HO9_
              clear HO9_
              
              have hs : Below w9.heap.size w9 (World.drew w9) := below_drew1 (Below.refl _ _)
              have SZ27 := Aside0.mk (show w9.heap.size ≤ (World.drew w9).heap.size from hs.size)
              
              have n_ := Aside0.mk (below_step HB.out hs)
              clear HB
              have HB := n_
              clear n_ hs
              refine start_ (n := 8) (S := fun w' => Sem.run Tryd.prog (Instr.slice 32 (Value.slice (some ⟨g, 0, none⟩) (acc.length + 1) cap) (some (Value.int IntKind.i64 (wrap64 ((lo : Int) + 1)))) none none) w' = .ok (.slice D (acc.length - lo) (cap - (lo + 1))) w' ∧ Sem.run Tryd.prog (Instr.slice 32 (Value.slice (some ⟨g, 0, none⟩) (acc.length + 1) cap) (some (Value.int IntKind.i64 ((lo : Int)))) none none) w' = .ok (.slice (some ⟨g, lo, none⟩) (acc.length + 1 - lo) (cap - lo)) w') (ds := [7]) #[false, false, false, false, false, false, false, false] (by kernel_rfl) rfl rfl ⟨(by rw [show wrap64 ((lo : Int) + 1) = ((lo + 1 : Nat) : Int) by have := HLO.out; have := HAL.out; have := AX.out; have := HL.out; unfold wrap64; omega]; have h := HD1.out; rw [Nat.add_sub_add_right] at h; exact h _), (HE1.out _)⟩ (fun hHeld => ?_)
              generalize World.drew w9 = w27 at HB HO9 SZ27 hHeld ⊢
              refine pure_ (i := 0) (N := some 65) (v := ?_) (a' := ?_) #[true, false, false, false, false, false, false, false] rfl rfl (by kernel_rfl) (fun _ _ _ h => h) (Or.inl ⟨by rfl, ?_⟩) ?_ ?_
              rotate_left
              · intro w'
                go_simp
                with_reducible rfl
              rotate_left
              · simp only [Act.put, List.setIfInBounds_toArray, List.set_cons_zero, List.set_cons_succ, i64_w, i32_w]
                rfl
              refine pure_ (i := 1) (N := some 66) (v := ?_) (a' := ?_) #[true, true, false, false, false, false, false, false] rfl rfl (by kernel_rfl) (fun _ _ _ h => h) (Or.inl ⟨by rfl, ?_⟩) ?_ ?_
              rotate_left
              · intro w'
                go_simp
                with_reducible rfl
              rotate_left
              · simp only [Act.put, List.setIfInBounds_toArray, List.set_cons_zero, List.set_cons_succ, i64_w, i32_w]
                rfl
              refine pure_ (i := 2) (N := some 67) (v := ?_) (a' := ?_) #[true, true, true, false, false, false, false, false] rfl rfl (by kernel_rfl) (fun _ _ _ h => h) (Or.inl ⟨by rfl, ?_⟩) ?_ ?_
              rotate_left
              · intro w'
                go_simp
                with_reducible rfl
              rotate_left
              · simp only [Act.put, List.setIfInBounds_toArray, List.set_cons_zero, List.set_cons_succ, i64_w, i32_w]
                rfl
              refine pure_ (i := 4) (N := some 69) (v := ?_) (a' := ?_) #[true, true, true, false, true, false, false, false] rfl rfl (by kernel_rfl) (fun _ _ _ h => h) (Or.inl ⟨by rfl, ?_⟩) ?_ ?_
              rotate_left
              · intro w'
                go_simp
                with_reducible rfl
              rotate_left
              · simp only [Act.put, List.setIfInBounds_toArray, List.set_cons_zero, List.set_cons_succ, i64_w, i32_w]
                rfl
              refine pure_ (i := 5) (N := some 70) (v := ?_) (a' := ?_) #[true, true, true, false, true, true, false, false] rfl rfl (by kernel_rfl) (fun _ _ _ h => h) (Or.inl ⟨by rfl, ?_⟩) ?_ ?_
              rotate_left
              · intro w'
                go_simp
                with_reducible rfl
              rotate_left
              · simp only [Act.put, List.setIfInBounds_toArray, List.set_cons_zero, List.set_cons_succ, i64_w, i32_w]
                rfl
              refine take_ (i := 3) (N := some 68) (v := ?_) (a' := ?_) #[true, true, true, true, true, true, false, false] rfl rfl (by kernel_rfl) (fun _ _ _ h => h) (Or.inl ⟨by rfl, ?_⟩) hHeld ?_ ?_
              rotate_left
              · rintro w' ⟨s0, s1⟩
                go_simp
                with_reducible rfl
              rotate_left
              · simp only [Act.put, List.setIfInBounds_toArray, List.set_cons_zero, List.set_cons_succ, i64_w, i32_w]
                rfl
              refine take_ (i := 6) (N := some 71) (v := ?_) (a' := ?_) #[true, true, true, true, true, true, true, false] rfl rfl (by kernel_rfl) (fun _ _ _ h => h) (Or.inl ⟨by rfl, ?_⟩) hHeld ?_ ?_
              rotate_left
              · rintro w' ⟨s0, s1⟩
                go_simp
                with_reducible rfl
              rotate_left
              · simp only [Act.put, List.setIfInBounds_toArray, List.set_cons_zero, List.set_cons_succ, i64_w, i32_w]
                rfl
              refine last_ (i := 7) (N := some 72) #[true, true, true, true, true, true, true, true] rfl rfl (by kernel_rfl) (by decide) (fun K hK => ?_)
              refine value_ (w1 := w27.setCells g (lo + 1) ((acc.drop lo).map Value.string)) (v := .int .i64 ((acc.length - lo : Nat) : Int)) (by rfl) rfl ?_ ?_
              · have h := shift_run w27 w.heap.size g acc.length cap lo D acc ⟨#[]⟩ rfl HLO.out HG9.out.2.2 HD2.out HO9.out
                go_simp
              refine hK.out _ _ ?_
              clear hK K
              refine norm_ (a' := ?_) ?_ ?_
              rotate_left
              · show Act.put _ (some 72) _ = _
                simp only [Act.put, List.setIfInBounds_toArray, List.set_cons_zero, List.set_cons_succ, i64_w, i32_w]
                rfl
              refine done_ (by kernel_rfl) ?_
              
              obtain ⟨hs1, hs2, hs3, hs4, hs5⟩ := shift_own w27 w.heap.size g acc.length cap lo acc ⟨#[]⟩ x rfl HLO.out HO9.out
              have HS1 := Aside0.mk hs1
              have hb5 := HB.out.grown hs5 HB.out.size (fun k hk => by injection hk with hk; subst hk; exact HG9.out.1)
              have hb2 := HB.out.grown hs2 HB.out.size (fun k hk => by injection hk with hk; subst hk; exact HG9.out.1)
              have HB2 := Aside0.mk hb2
              have hcx := HX0.out _ hb5
              clear hs1 hs2 hs5 hb5 hb2 HB
              have d3 : (lo : Int) < (acc.length : Int) + 1 := by have := HLO.out; omega
              have d4 : (lo < acc.length + 1) = True := eq_true (by have := HLO.out; omega)
              generalize w27.setCells g (lo + 1) ((acc.drop lo).map Value.string) = w40 at HS1 HB2 hs3 hs4 hcx ⊢
              go_wp2_with (fail)
              go_roundg gkO
              case measure => have := HGK.out; have := HK.out; omega
              case rel =>
                have h1 := HK.out
                have h2 := AX.out
                have h3 := HL.out
                have hi_ := HINS.out
                refine ⟨k + 1, by rw [show wrap64 ((k : Int) + 1) = ((k + 1 : Nat) : Int) by unfold wrap64; omega], Aside0.mk ⟨by omega, by have := HGK.out; omega⟩, Aside0.mk (by rw [HT.out, HN.out, HMM.out]; rfl), Aside0.mk ⟨?_, ?_⟩, HB2⟩
                · rw [HST.out, hi_]
                  have hl := HS1.out
                  exact Kd.R_of_own (by rw [List.length_append, List.length_append, List.length_take, List.length_drop, List.length_singleton, show min lo acc.length + 1 + (acc.length - lo) = acc.length + 1 by have := HLO.out; omega]; exact hl) (fun _ _ => trivial)
                · rw [HST.out, hi_, List.length_append, List.length_append, List.length_take, List.length_drop, List.length_singleton]
                  have := HLO.out
                  have := HAL.out
                  omega
      · have hm2 : mayB x = false := by simpa using hm
        have HM := Aside0.mk (show twoslotref21_May.f x = some false by rw [may_ev, hm2])
        have hbad := badAny_of hlt (by rw [hxx]; exact hm2)
        have HBAD := Aside0.mk hbad
        clear hlt hxx ht hst hm hm2 hbad
        go_wp2_with (go_at_call 30; (with_reducible refine (twoslotref21_May.calls x false _ HM.out).mono ?_); rintro e w1 ⟨rfl, hd⟩; have hb := hd.below; have n2_ := Aside0.mk (below_step HB.out hb); clear HB hx; have HB := n2_; clear n2_ hb hd)
        go_ret2
        have hrc := HRC.out
        rw [if_pos HBAD.out] at hrc
        injection hrc with hrr hcc
        subst hrr
        subst hcc
        refine ⟨.slice none 0 0, rfl, ?_, HB.out⟩
        exact Kd.R_nil _ _ _ _ _
    · have ek : k = l0.length := by have := AX.out; omega
      subst ek
      have b1 : decide ((l0.length : Int) < (l0.length : Int)) = false := decide_eq_false (by omega)
      have b2 : decide (l0.length < l0.length) = false := decide_eq_false (by omega)
      have hn := HN.out
      have hr := HO0.out.1
      rw [List.take_length] at hn hr
      have HN2 := Aside0.mk hn
      have HR2 := Aside0.mk hr
      clear hn hr hlt
      obtain ⟨A4, c4, e4⟩ := Kd.R_slice HR2.out
      subst e4
      go_wp2_with (fail)
      go_ret2
      have hrc := HRC.out
      rw [if_neg (by rw [HN2.out]; simp)] at hrc
      injection hrc with hrr hcc
      subst hrr
      subst hcc
      exact ⟨.slice A4 (rowB l0).length c4, rfl, HR2.out, HB.out⟩
set_option maxHeartbeats 4000000 in
set_option maxRecDepth 100000 in
theorem twoslotref21_Sort.calls (A0 : Option Addr) (c0 : Nat) (l0 : List ByteArray) (r1 : List ByteArray) (r2 : Int) (w : World) (hr0 : Kd.C Kd.string w A0 l0.length l0) (hc0 : l0.length ≤ c0) (h : twoslotref21_Sort.f l0 = some (r1, r2)) :
    Calls Tryd.prog 22 #[.slice A0 l0.length c0] w fun e w' => ∃ v0_ : Value, e = .returned (.tuple #[v0_, .int .i64 r2]) ∧ Kd.R Kd.string 9 w' w.heap.size (fun _ => True) v0_ r1 ∧ Below w.heap.size w w' := by
  unfold twoslotref21_Sort.f at h
  by_cases hl : l0.length > 65536
  · have HB := Aside0.mk (Below.refl w.heap.size w)
    rw [if_pos hl] at h
    injection h with h
    injection h with h1 h2
    subst h1 h2
    have b1 : decide ((l0.length : Int) > 65536) = true := decide_eq_true (by omega)
    have b2 : decide (l0.length > 65536) = true := decide_eq_true hl
    have b3 : decide ((65536 : Int) < (l0.length : Int)) = true := decide_eq_true (by omega)
    clear hr0 hl
    go_enter Tryd.func22, Tryd.ntmps22
    go_wp2
    go_ret2
    exact ⟨_, rfl, Kd.R_nil _ _ _ _ _, HB.out⟩
  rw [if_neg hl] at h
  injection h with h
  exact refSort.good A0 c0 l0 w hr0 (by omega) r1 r2 (Aside0.mk h)
end Go.Proofs.YtmhfgcmgeglmhaaDoor.P
