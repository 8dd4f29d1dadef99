import Derived.Test.YtemmhgfjfbdggaaP08RC
import Derived.Test.YtemmhgfjfbdggaaM8h
import Derived.Test.YtemmhgfjfbdggaaP08Y
import Derived.Test.YtemmhgfjfbdggaaM8b
import Derived.Test.YtemmhgfjfbdggaaPx4
namespace Go.Proofs.Ytemmhgfjfbdggaa.P
open Go.RowKit Go.Proofs.YtemmhgfjfbdggaaW.PrintWords Go.Proofs.YtemmhgfjfbdggaaW.PrintLast Go.Proofs.YtemmhgfjfbdggaaW.PrintMore
attribute [local go_sem] max2_int min2_int max_two min_two max_three min_three max_four min_four
set_option linter.unusedVariables false
set_option linter.unusedSimpArgs false
set_option maxHeartbeats 8000000 in
set_option maxRecDepth 100000 in
theorem RWrite (r : Nat) (As Ag : Option Addr) (n cs m cg : Nat) (a b c d : Int) (slots : List (List Int)) (gone : List Bool) (off : Bool) (cut wr : Int) (base : Nat) (ok : Nat → Prop) (x : S51) (B : Option Addr) (cc : Nat) (w : World) (H : RefO w base ok r As n cs Ag m cg a b c d slots gone off cut wr) (hm : (m : Int) = a + b) (hm2 : m ≤ 16) (hd : 0 ≤ d ∧ d ≤ 4096) (okl : Nat → Prop) (hF : Kd.F (Kd.int .u8) w okl B x.f3.length x.f3) (hdis : ∀ k, okl k → ¬ ok k) (hlb : ∀ k, okl k → k < w.heap.size) (hle : x.f3.length ≤ cc) (hBy : IsB x.f3) (hLn : x.f3.length ≤ 1048576) (hn : (slots.length : Int) = (m : Int) * d * 2) (hcu : -1 ≤ cut ∧ cut ≤ 9223372036854775807) (hwr : 0 ≤ wr ∧ wr ≤ 1000000) (R : DS × Int) (hR : put1 m d (sizeOf08 a b c) x ⟨slots, off, cut, wr⟩ = R) : Calls Try.prog 52 #[.pointer (some ⟨r, 0, none⟩), .agg #[.int .i64 x.f0, .int .i64 x.f1, .int .i64 x.f2, .slice B x.f3.length cc]] w fun e w' => e = .returned (.int .i64 R.2) ∧ RefO w' base (Gr ok w w') r As n cs Ag m cg a b c d R.1.slots gone R.1.off R.1.cut R.1.wr ∧ Wrote base ok w w' := by
 subst hR
 by_cases c1 : off = true
 ·
  subst c1
  unfold put1
  rw [if_pos rfl]
  exact RWrite_off r As Ag n cs m cg a b c d slots gone true cut wr base ok x B cc w H hm hm2 hd rfl
 ·
  have c1 : off = false := by simpa using c1
  subst c1
  by_cases c2 : atOf m d x.f0 x.f1 x.f2 < 0
  ·
   unfold put1
   rw [if_neg (by simp), if_pos (.inl c2)]
   exact RWrite_bad r As Ag n cs m cg a b c d slots gone false cut wr base ok x B cc w H hm hm2 hd rfl c2
  ·
   by_cases c3 : (x.f3.length : Int) = sizeOf08 a b c
   rotate_left
   ·
    unfold put1
    rw [if_neg (by simp), if_pos (.inr c3)]
    exact RWrite_len r As Ag n cs m cg a b c d slots gone false cut wr base ok x B cc w H hm hm2 hd rfl (by omega) c3
   ·
    by_cases c4 : cut = 0
    ·
     subst c4
     unfold put1
     rw [if_neg (by simp), if_neg (fun h => h.elim c2 (fun h => h c3)), if_pos rfl]
     exact RWrite_cut r As Ag n cs m cg a b c d slots gone false 0 wr base ok x B cc w H hm hm2 hd rfl (by omega) c3 rfl
    ·
     have hlt := (atOf_lt (nd := m) (d := d) (x := x.f0) (y := x.f1) (z := x.f2) hd.1 (by omega)).2.2.2.2.2.2.2
     obtain ⟨i, hi⟩ : ∃ i : Nat, atOf m d x.f0 x.f1 x.f2 = (i : Int) := ⟨(atOf m d x.f0 x.f1 x.f2).toNat, by omega⟩
     have hil : i < slots.length := by omega
     have ew : wrap64 (wr + 1) = wr + 1 := by unfold wrap64; omega
     unfold put1
     rw [if_neg (by simp), if_neg (fun h => h.elim c2 (fun h => h c3)), if_neg c4, hi, Int.toNat_natCast]
     by_cases c5 : 0 < cut
     ·
      have ec : wrap64 (cut - 1) = cut - 1 := by unfold wrap64; omega
      have K := RWrite_left r As Ag n cs m cg a b c d slots gone false cut wr base ok x B cc w H hm hm2 hd rfl i hi hil c3 c5 okl hF hdis hlb hle hBy hLn
      rw [ew, ec] at K
      rw [if_pos c5]
      exact K
     ·
      have K := RWrite_free r As Ag n cs m cg a b c d slots gone false cut wr base ok x B cc w H hm hm2 hd rfl i hi hil c3 (by omega) okl hF hdis hlb hle hBy hLn
      rw [ew] at K
      rw [if_neg c5]
      exact K
theorem put1_keeps {nd : Nat} {d sz : Int} {p : PutT} {s : DS} (hcu : -1 ≤ s.cut ∧ s.cut ≤ 9223372036854775807) : (put1 nd d sz p s).1.slots.length = s.slots.length ∧ s.wr ≤ (put1 nd d sz p s).1.wr ∧ (put1 nd d sz p s).1.wr ≤ s.wr + 1 ∧ -1 ≤ (put1 nd d sz p s).1.cut ∧ (put1 nd d sz p s).1.cut ≤ 9223372036854775807 := by
 unfold put1
 by_cases c1 : s.off = true
 ·
  rw [if_pos c1]; exact ⟨rfl, Int.le_refl _, by show s.wr ≤ s.wr + 1; omega, hcu.1, hcu.2⟩
 ·
  rw [if_neg c1]
  by_cases c2 : atOf nd d p.f0 p.f1 p.f2 < 0 ∨ (p.f3.length : Int) ≠ sz
  ·
   rw [if_pos c2]; exact ⟨rfl, Int.le_refl _, by show s.wr ≤ s.wr + 1; omega, hcu.1, hcu.2⟩
  ·
   rw [if_neg c2]
   by_cases c3 : s.cut = 0
   ·
    rw [if_pos c3]
    exact ⟨rfl, Int.le_refl _, by show s.wr ≤ s.wr + 1; omega, by show (-1 : Int) ≤ -1; omega, by show (-1 : Int) ≤ 9223372036854775807; omega⟩
   ·
    rw [if_neg c3]
    refine ⟨List.length_set, by show s.wr ≤ s.wr + 1; omega, Int.le_refl _, ?_, ?_⟩
    ·
     show -1 ≤ (if 0 < s.cut then s.cut - 1 else s.cut)
     split <;> omega
    ·
     show (if 0 < s.cut then s.cut - 1 else s.cut) ≤ 9223372036854775807
     split <;> omega
set_option maxHeartbeats 8000000 in
set_option maxRecDepth 100000 in
theorem RAll (r : Nat) (As Ag : Option Addr) (n cs m cg : Nat) (a b c d : Int) (slots : List (List Int)) (gone : List Bool) (off : Bool) (cut wt : Int) (base : Nat) (ok : Nat → Prop) (l : List S51) (A : Option Addr) (cl : Nat) (okl : Nat → Prop) (w : World) (H : RefO w base ok r As n cs Ag m cg a b c d slots gone off cut wt) (hm : (m : Int) = a + b) (hm2 : m ≤ 16) (hd : 0 ≤ d ∧ d ≤ 4096) (hF : Kd.F k51 w okl A l.length l) (hdis : ∀ k, okl k → ¬ ok k) (hlb : ∀ k, okl k → k < w.heap.size) (hel : ∀ x ∈ l, IsB x.f3 ∧ x.f3.length ≤ 1048576) (hln : l.length ≤ 100000) (hn : (slots.length : Int) = (m : Int) * d * 2) (hcu : -1 ≤ cut ∧ cut ≤ 9223372036854775807) (hwr : 0 ≤ wt ∧ wt + l.length ≤ 1000000) (R : DS × Int) (hR : putsL m d (sizeOf08 a b c) l ⟨slots, off, cut, wt⟩ = R) :
  Calls Try.prog 34 #[.pointer (some ⟨r, 0, none⟩), .slice A l.length cl] w fun e w' => e = .returned (.int .i64 R.2) ∧ RefO w' base (Gr ok w w') r As n cs Ag m cg a b c d R.1.slots gone R.1.off R.1.cut R.1.wr ∧ Wrote base ok w w' := by
 subst hR
 have hu51 := Try.underlying51
 have HM := Aside0.mk hm
 have HM2 := Aside0.mk hm2
 have HDD := Aside0.mk hd
 have HNN := Aside0.mk hn
 have HLN := Aside0.mk hln
 have HF0 := Aside0.mk hF
 have HDIS := Aside0.mk hdis
 have HLB := Aside0.mk hlb
 have HEL := Aside0.mk hel
 have HWR := Aside0.mk hwr
 have HCU := Aside0.mk hcu
 have HH0 := Aside0.mk H
 have HB := Aside0.mk (Wrote.start (ok := ok) (w := w) H.low)
 clear H hm hm2 hd hn hF hdis hlb hel hln hwr hcu
 go_enter Try.func34, Try.ntmps34
 go_wp2_with (fail)
 go_loopg [5] l.length (fun kq v5 wr => ∃ (k : Nat) (st : DS), v5 = .int .i64 (k : Int) ∧ Aside0 (k ≤ l.length ∧ l.length - k ≤ kq) ∧ Aside0 (RefO wr base (Gr ok w wr) r As n cs Ag m cg a b c d st.slots gone st.off st.cut st.wr) ∧ Aside0 (Wrote base ok w wr) ∧ Aside0 (putsL m d (sizeOf08 a b c) (l.drop k) st = putsL m d (sizeOf08 a b c) l ⟨slots, off, cut, wt⟩ ∧ st.slots.length = slots.length ∧ 0 ≤ st.wr ∧ st.wr ≤ wt + k ∧ -1 ≤ st.cut ∧ st.cut ≤ 9223372036854775807))
 case atStart =>
  refine ⟨0, ⟨slots, off, cut, wt⟩, rfl, Aside0.mk ⟨by omega, by omega⟩, Aside0.mk (HH0.out.gr HB.out.1 (fun k hk => .inl hk) HH0.out.base_), HB, Aside0.mk ⟨by rw [List.drop_zero], rfl, HWR.out.1, ?_, HCU.out.1, HCU.out.2⟩⟩
  show wt ≤ wt + ((0 : Nat) : Int)
  omega
 case round =>
  clear HB
  obtain ⟨k, ⟨sl, of, cu, wn⟩, rfl, AX, HH_, HW0, HP_⟩ := hrel
  have HH := Aside0.mk (show RefO wr base (Gr ok w wr) r As n cs Ag m cg a b c d sl gone of cu wn from HH_.out)
  have HP := Aside0.mk (show putsL m d (sizeOf08 a b c) (l.drop k) ⟨sl, of, cu, wn⟩ = putsL m d (sizeOf08 a b c) l ⟨slots, off, cut, wt⟩ ∧ sl.length = slots.length ∧ 0 ≤ wn ∧ wn ≤ wt + k ∧ -1 ≤ cu ∧ cu ≤ 9223372036854775807 from HP_.out)
  clear HH_ HP_
  by_cases hlt : k < l.length
  ·
   have hFr : Kd.F k51 wr okl A l.length l := Kd.F_kept HF0.out HW0.out.2.2 HDIS.out
   obtain ⟨ad, A3, c3, x, eA, hdr, hxl, hle, q0, q1, q2, q3, hFx⟩ := puts_elem hFr k hlt
   subst eA
   have hq1 := HDIS.out
   have hq2 := HLB.out
   have hsz := HW0.out.size
   have hx := HEL.out x (by rw [hxl]; exact List.getElem_mem _)
   have hax := AX.out
   have hpp := HP.out
   have hww := HWR.out
   obtain ⟨R1, hR1⟩ : ∃ R1, put1 m d (sizeOf08 a b c) x ⟨sl, of, cu, wn⟩ = R1 := ⟨_, rfl⟩
   have hkp := put1_keeps (nd := m) (d := d) (sz := (sizeOf08 a b c)) (p := x) (s := ⟨sl, of, cu, wn⟩) ⟨hpp.2.2.2.2.1, hpp.2.2.2.2.2⟩
   rw [hR1] at hkp
   have hcall := RWrite r As Ag n cs m cg a b c d sl gone of cu wn base (Gr ok w wr) x A3 c3 wr HH.out HM.out HM2.out HDD.out okl hFx (fun q hq ho => ho.2.elim (hq1 q hq) (fun h => by have := hq2 q hq; omega)) (fun q hq => Nat.lt_of_lt_of_le (hq2 q hq) hsz) hle hx.1 hx.2 (by rw [hpp.2.1]; exact HNN.out) ⟨hpp.2.2.2.2.1, hpp.2.2.2.2.2⟩ ⟨hpp.2.2.1, by omega⟩ R1 hR1
   have HCALL := Aside0.mk hcall
   have HKP := Aside0.mk hkp
   have HDR := Aside0.mk hdr
   have HR1 := Aside0.mk hR1
   have b1 : decide ((k : Int) < (l.length : Int)) = true := decide_eq_true (by omega)
   have b2 : decide (k < l.length) = true := decide_eq_true hlt
   have b3 : (k < l.length) = True := eq_true hlt
   have HK := Aside0.mk hlt
   obtain ⟨⟨sl2, of2, cu2, wn2⟩, e2⟩ := R1
   clear hlt hFr hdr hxl hle hFx hq1 hq2 hx hax hpp hww hkp hcall hR1
   by_cases he : e2 = 0
   ·
    subst he
    go_wp2_with (go_at_call 52; (with_reducible refine (HCALL.out).mono ?_); rintro e w1 ⟨rfl, hD, hW⟩; have HD := Aside0.mk hD; have HWW := Aside0.mk hW; clear hD hW)
    have hax := AX.out
    have hlk := HK.out
    have hln := HLN.out
    have hkp := HKP.out
    have hpp := HP.out
    go_roundg (gk - 1)
    case measure => omega
    case rel =>
     refine ⟨k + 1, ⟨sl2, of2, cu2, wn2⟩, by rw [show wrap64 ((k : Int) + 1) = ((k + 1 : Nat) : Int) by unfold wrap64; omega], Aside0.mk ⟨by omega, by omega⟩, Aside0.mk (HD.out.gr HW0.out.1 ?_ HH0.out.base_), Aside0.mk (HW0.out.thenG HWW.out), Aside0.mk ⟨?_, hkp.1.trans hpp.2.1, ?_, ?_, hkp.2.2.2.1, hkp.2.2.2.2⟩⟩
     ·
      rintro q ⟨_, hq | hq⟩
      ·
       exact hq.2
      ·
       exact .inr (Nat.le_trans HW0.out.size hq)
     ·
      rw [← hpp.1, HDR.out, putsL_go (by rw [HR1.out]), HR1.out]
     ·
      have h2 : 0 ≤ wn := hpp.2.2.1
      have h3 : wn ≤ wn2 := hkp.2.1
      show 0 ≤ wn2
      omega
     ·
      have h2 : wn ≤ wt + k := hpp.2.2.2.1
      have h3 : wn2 ≤ wn + 1 := hkp.2.2.1
      show wn2 ≤ wt + ((k + 1 : Nat) : Int)
      omega
   ·
    have d1 : (e2 == 0) = false := beq_false_of_ne he
    have d2 : decide (e2 = 0) = false := decide_eq_false he
    have d3 : (e2 = 0) = False := eq_false he
    have HE := Aside0.mk he
    clear he
    go_wp2_with (go_at_call 52; (with_reducible refine (HCALL.out).mono ?_); rintro e w1 ⟨rfl, hD, hW⟩; have HD := Aside0.mk hD; have HWW := Aside0.mk hW; clear hD hW)
    first | go_ret | go_ret2
    have hR : putsL m d (sizeOf08 a b c) l ⟨slots, off, cut, wt⟩ = (⟨sl2, of2, cu2, wn2⟩, e2) := by
     rw [← HP.out.1, HDR.out, putsL_stop (by rw [HR1.out]; exact HE.out), HR1.out]
    rw [hR]
    exact ⟨rfl, HD.out.gr HW0.out.1 (by
     rintro q ⟨_, hq | hq⟩
     ·
      exact hq.2
     ·
      exact .inr (Nat.le_trans HW0.out.size hq)) HH0.out.base_, HW0.out.thenG HWW.out⟩
  ·
   have b1 : decide ((k : Int) < (l.length : Int)) = false := decide_eq_false (by omega)
   have b2 : decide (k < l.length) = false := decide_eq_false hlt
   have e : k = l.length := by
    have := AX.out
    omega
   have hR : putsL m d (sizeOf08 a b c) l ⟨slots, off, cut, wt⟩ = (⟨sl, of, cu, wn⟩, 0) := by
    rw [← HP.out.1, e, List.drop_length]
    rfl
   clear hlt
   go_wp2
   first | go_ret | go_ret2
   rw [hR]
   exact ⟨rfl, HH.out, HW0.out⟩
end Go.Proofs.Ytemmhgfjfbdggaa.P
namespace Go.Proofs.Ytemmhgfjfbdggaa.P
open Go.RowKit Go.Proofs.YtemmhgfjfbdggaaW.PrintWords Go.Proofs.YtemmhgfjfbdggaaW.PrintLast Go.Proofs.YtemmhgfjfbdggaaW.PrintMore
attribute [local go_sem] max2_int min2_int max_two min_two max_three min_three max_four min_four
set_option linter.unusedVariables false
set_option linter.unusedSimpArgs false
theorem wrapN (i : Nat) (h : i ≤ 1000000) : wrap64 (i : Int) = (i : Int) := by
 unfold wrap64
 omega
theorem wrapA (i k p : Nat) (hp : p = i + k) (h : p ≤ 1000000) : wrap64 ((i : Int) + (k : Int)) = (p : Int) := by
 subst hp
 unfold wrap64
 omega
theorem wrapD (d j : Nat) (hj : j = 2 * d) (h : d ≤ 100000) : wrap64 ((d : Int) * 2) = (j : Int) := by
 subst hj
 unfold wrap64
 omega
theorem wipeF_end {α : Type} (z : α) : ∀ (c : Nat) (xs : List α) (i : Nat), wipeF z xs i (c + 1) = (wipeF z xs i c).set (i + c) z
 | 0, xs, i => rfl
 | c + 1, xs, i => by
  rw [wipeF, wipeF_end z c (xs.set i z) (i + 1), wipeF, show i + 1 + c = i + (c + 1) by omega]
theorem RefO.goneCell {W : World} {base : Nat} {ok : Nat → Prop} {r g n cs m cg : Nat} {As : Option Addr} {a b c d : Int} {slots : List (List Int)} {gone : List Bool} {off : Bool} {cut wr : Int} (h : RefO W base ok r As n cs (some ⟨g, 0, none⟩) m cg a b c d slots gone off cut wr) {i : Nat} (hi : i < gone.length) :
  ∃ u : Bool, W.cell? ⟨g, i, none⟩ = some (.bool u) ∧ W.frozen? ⟨g, i, none⟩ = false := by
 have hr := h.2.2.1
 rw [h.lens.2.2.1] at hr
 have h1 := Kd.R_cell false hr (i : Int) (by omega) (by omega)
 rw [Int.toNat_natCast] at h1
 exact ⟨_, h1.1, h1.2⟩
set_option maxHeartbeats 8000000 in
set_option maxRecDepth 100000 in
theorem RWipe_bad (r : Nat) (As Ag : Option Addr) (n cs m cg : Nat) (a b c d : Int) (slots : List (List Int)) (gone : List Bool) (off : Bool) (cut wr : Int) (base : Nat) (ok : Nat → Prop) (x : Int) (w : World) (H : RefO w base ok r As n cs Ag m cg a b c d slots gone off cut wr) (hm : (m : Int) = a + b) (hm2 : m ≤ 16) (hd : 1 ≤ d ∧ d ≤ 4096) (hat : atOf m d x 0 0 < 0) : Calls Try.prog 36 #[.pointer (some ⟨r, 0, none⟩), .int .i64 x] w fun e w' => e = .returned (.int .i64 80) ∧ Below w.heap.size w w' := by
 have hu23 := Try.underlying23
 have hu80 := Try.underlying80
 have hu36 := Try.underlying36
 have HB := Aside0.mk (Below.refl w.heap.size w)
 have BKr := Aside0.mk H.1
 have HTE := Aside0.mk (there_ev (c := c) hm hm2 ⟨by omega, hd.2⟩ x 0 0)
 have b1 : decide (atOf m d x 0 0 < 0) = true := decide_eq_true hat
 clear H hm hm2 hd hat
 obtain ⟨hcr_0, hcr_1, hcr_2, hcr_3, -, -, -, -, -, hfr_0, hfr_1, hfr_2, hfr_3, -, -, -, -, -⟩ := cs9 BKr.out
 go_enter Try.func36, Try.ntmps36
 have tok1 : True := trivial
 go_wp2_with (first | (have _ := tok1; go_at_call 53; (with_reducible refine (twoslotref08_There.calls a b c d x 0 0 (atOf m d x 0 0) _ HTE.out).mono ?_); rintro e w1 ⟨rfl, hb⟩; (try clear hcr_0 hfr_0 hcr_1 hfr_1 hcr_2 hfr_2 hcr_3 hfr_3); have hs : Below w.heap.size w w1 := below_step Lt8.b hb; have SZ1 := Aside0.mk (show w.heap.size ≤ w1.heap.size from hs.size); replace BKr := bb BKr hs; replace HB := hbs HB hs; clear hb hs; (try clear hl); obtain ⟨hcr_0, hcr_1, hcr_2, hcr_3, -, -, -, -, -, hfr_0, hfr_1, hfr_2, hfr_3, -, -, -, -, -⟩ := cs9 BKr.out; clear tok1))
 first | go_ret | go_ret2
 exact ⟨rfl, HB.out⟩
set_option maxHeartbeats 8000000 in
set_option maxRecDepth 100000 in
theorem RWipe (r : Nat) (As Ag : Option Addr) (n cs m cg : Nat) (a b c d : Int) (slots : List (List Int)) (gone : List Bool) (off : Bool) (cut wt : Int) (base : Nat) (ok : Nat → Prop) (x : Int) (i : Nat) (w : World) (H : RefO w base ok r As n cs Ag m cg a b c d slots gone off cut wt) (hm : (m : Int) = a + b) (hm2 : m ≤ 16) (hd : 1 ≤ d ∧ d ≤ 4096) (hx : 0 ≤ x ∧ x < m) (hat : atOf m d x 0 0 = (i : Int)) (hi : i + 2 * d.toNat ≤ slots.length) (hsl : slots.length ≤ 100000) : Calls Try.prog 36 #[.pointer (some ⟨r, 0, none⟩), .int .i64 x] w fun e w' => e = .returned (.int .i64 0) ∧ RefO w' base (Gr ok w w') r As n cs Ag m cg a b c d (wipeF [] slots i (2 * d.toNat)) (gone.set x.toNat true) off cut wt ∧ Wrote base ok w w' := by
 have hu23 := Try.underlying23
 have hu80 := Try.underlying80
 have hu36 := Try.underlying36
 have hl := H.lens
 obtain ⟨g, cap, e, _⟩ := Kd.N_form H.2.1 (by omega)
 injection e with e1 e2 e3
 subst e1
 obtain ⟨g2, cap2, e', _⟩ := Kd.R_form H.2.2.1 (by omega)
 injection e' with e1' e2' e3'
 subst e1'
 obtain ⟨dn, rfl⟩ : ∃ dn : Nat, d = (dn : Int) := ⟨d.toNat, by omega⟩
 rw [Int.toNat_natCast] at hi ⊢
 obtain ⟨xn, rfl⟩ : ∃ xn : Nat, x = (xn : Int) := ⟨x.toNat, by omega⟩
 rw [Int.toNat_natCast]
 have hte := there_ev (c := c) hm hm2 ⟨by omega, hd.2⟩ (xn : Int) 0 0
 rw [hat] at hte
 have hat2 : (xn : Int) * (dn : Int) * 2 = (i : Int) := by
  have h := hat
  unfold atOf at h
  rw [if_neg (by omega)] at h
  omega
 have hle : (xn : Int) * (dn : Int) ≤ 16 * dn := Int.mul_le_mul_of_nonneg_right (by omega) (by omega)
 have hge : 0 ≤ (xn : Int) * (dn : Int) := Int.mul_nonneg (by omega) (by omega)
 have ew1 : wrap64 ((xn : Int) * (dn : Int)) = (xn : Int) * (dn : Int) := by unfold wrap64; omega
 have hi6 : i ≤ 1000000 := by clear hat hte hat2 hle hge ew1; omega
 have ew2 : wrap64 ((xn : Int) * (dn : Int) * 2) = (i : Int) := by rw [hat2]; exact wrapN i hi6
 obtain ⟨j, hj⟩ : ∃ j : Nat, j = 2 * dn := ⟨_, rfl⟩
 rw [← hj] at hi ⊢
 have hd6 : dn ≤ 100000 := by clear hat hte hat2 hle hge ew1 ew2; omega
 have ew3 : wrap64 ((dn : Int) * 2) = (j : Int) := wrapD dn j hj hd6
 have HJ := Aside0.mk hj
 have HE := Aside0.mk (show wrap64 (wrap64 ((xn : Int) * (dn : Int)) * 2) = (i : Int) by rw [ew1, ew2])
 clear hat2 hle hge ew1 ew2
 have hnrg : r ≠ g := (H.2.1.1 g rfl).2.1.symm
 have hngr : g ≠ r := hnrg.symm
 have hnr2 : r ≠ g2 := fun e => Kd.R_ne H.2.2.1 H.1 (by decide) (by rw [e]; rfl)
 have hn2r : g2 ≠ r := hnr2.symm
 have b1 : decide ((i : Int) < 0) = false := decide_eq_false (by omega)
 have HH0 := Aside0.mk H
 have HTE := Aside0.mk hte
 have HI := Aside0.mk hi
 have HX := Aside0.mk hx
 have HL := Aside0.mk hl
 have HM2 := Aside0.mk hm2
 have HSL := Aside0.mk hsl
 have HDD := Aside0.mk hd
 have HB := Aside0.mk (Below.refl w.heap.size w)
 have BKr := Aside0.mk H.1
 clear H hm hm2 hd hx hat hi hsl hte hl e2 e3 e2' e3' hj
 obtain ⟨hcr_0, hcr_1, hcr_2, hcr_3, -, -, -, -, -, hfr_0, hfr_1, hfr_2, hfr_3, -, -, -, -, -⟩ := cs9 BKr.out
 go_enter Try.func36, Try.ntmps36
 have tok1 : True := trivial
 go_wp2_with (first | (have _ := tok1; go_at_call 53; (with_reducible refine (twoslotref08_There.calls a b c (dn : Int) (xn : Int) 0 0 (i : Int) _ HTE.out).mono ?_); rintro e w1 ⟨rfl, hb⟩; (try clear hcr_0 hfr_0 hcr_1 hfr_1 hcr_2 hfr_2 hcr_3 hfr_3); have hs : Below w.heap.size w w1 := below_step Lt8.b hb; have SZ1 := Aside0.mk (show w.heap.size ≤ w1.heap.size from hs.size); replace BKr := bb BKr hs; replace HB := hbs HB hs; clear hb hs; (try clear hl); obtain ⟨hcr_0, hcr_1, hcr_2, hcr_3, -, -, -, -, -, hfr_0, hfr_1, hfr_2, hfr_3, -, -, -, -, -⟩ := cs9 BKr.out; clear tok1))
 (try clear hcr_0 hfr_0 hcr_1 hfr_1 hcr_2 hfr_2 hcr_3 hfr_3)
 go_loopg [5] (j) (fun kq v5 wr => ∃ k : Nat, v5 = .int .i64 (k : Int) ∧ Aside0 (k ≤ j ∧ j - k ≤ kq) ∧ Aside0 (RefO wr base (Gr ok w wr) r (some ⟨g, 0, none⟩) n cs (some ⟨g2, 0, none⟩) m cg a b c (dn : Int) (wipeF [] slots i k) gone off cut wt) ∧ Aside0 (Wrote base ok w wr))
 case atStart => exact ⟨0, rfl, Aside0.mk ⟨by omega, by omega⟩, Aside0.mk ((HH0.out.below HB.out).gr HH0.out.low (fun k hk => .inl hk) HH0.out.base_), Aside0.mk ((Wrote.start HH0.out.low).below HB.out)⟩
 case round =>
  clear BKr HB
  obtain ⟨k, rfl, AX, HH, HW0⟩ := hrel
  have BKr := Aside0.mk HH.out.1
  have HB := Aside0.mk (Below.refl wr.heap.size wr)
  by_cases hlt : k < j
  ·
   have b2 : decide ((k : Int) < (j : Int)) = true := decide_eq_true (by omega)
   have b2' : decide ((k : Int) < (dn : Int) * 2) = true := decide_eq_true (by have := HJ.out; omega)
   have b3 : decide (k < j) = true := decide_eq_true hlt
   have b4 : (k < j) = True := eq_true hlt
   have HK := Aside0.mk hlt
   obtain ⟨p, hp⟩ : ∃ p : Nat, p = i + k := ⟨_, rfl⟩
   have hpl : p < slots.length := by
    have h1 := HI.out
    omega
   have hln := HL.out.1
   have hsl := HSL.out
   have f1 : (p < n) = True := eq_true (by omega)
   have f2 : decide ((p : Int) < (n : Int)) = true := decide_eq_true (by omega)
   have hE := HE.out
   have hW : wrap64 ((i : Int) + (k : Int)) = (p : Int) := wrapA i k p hp (by omega)
   have HP := Aside0.mk hp
   have HPL := Aside0.mk hpl
   clear hlt hp hpl hln hsl
   obtain ⟨-, -, -, hcr_3, hcr_4, -, -, hcr_7, -, -, -, -, hfr_3, hfr_4, -, -, hfr_7, -⟩ := cs9 BKr.out
   go_wp2_with (fail)
   obtain ⟨s_A, s_c, hcu, hfu, _, _⟩ := HH.out.slotCell (i := p) (by rw [wipeF_len]; exact HPL.out)
   have HCU := Aside0.mk hcu
   have HFU := Aside0.mk hfu
   clear hcu hfu
   have hfz := HFU.out
   (try clear hcr_3 hfr_3 hcr_4 hfr_4 hcr_7 hfr_7)
   have hs : Below wr.heap.size wr (World.drew wr) := below_drew1 (Below.refl _ _)
   have SZ2 := Aside0.mk (show wr.heap.size ≤ (World.drew wr).heap.size from hs.size)
   replace BKr := bb BKr hs
   replace HH := Aside0.mk (RefO.below HH.out hs)
   replace HCU := Aside0.mk (pw_cell_below hs HCU.out)
   replace HB := Aside0.mk (below_step HB.out hs)
   clear hs
   refine start_ (n := 18) (S := fun w' => w'.cell? ⟨r, 3, none⟩ = some (.int .i64 (dn : Int)) ∧ w'.cell? ⟨r, 4, none⟩ = some (.slice (some ⟨g, 0, none⟩) n cs) ∧ w'.cell? ⟨r, 7, none⟩ = some (.slice (some ⟨g2, 0, none⟩) m cg)) (ds := [17]) #[O,O,O,O,O,O,O,O,O,O,O,O,O,O,O,O,O,O] (by kernel_rfl) rfl rfl ⟨(blk_cell BKr.out 3).trans rfl, (blk_cell BKr.out 4).trans rfl, (blk_cell BKr.out 7).trans rfl⟩ (fun hHeld => ?_)
   generalize World.drew wr = w2 at HB BKr HH HCU SZ2 hHeld ⊢
   refine pv 0 25 ?_ #[X,O,O,O,O,O,O,O,O,O,O,O,O,O,O,O,O,O] rfl rfl (by kernel_rfl) (fun _ _ _ h => h) ⟨by rfl, ?_⟩ ?_ ?_ ?_; rotate_left; (intro w'; go_simp; with_reducible rfl); rotate_left; (simp only [sP]; rfl)
   refine pv 1 26 ?_ #[X,X,O,O,O,O,O,O,O,O,O,O,O,O,O,O,O,O] rfl rfl (by kernel_rfl) (fun _ _ _ h => h) ⟨by rfl, ?_⟩ ?_ ?_ ?_; rotate_left; (intro w'; go_simp; with_reducible rfl); rotate_left; (simp only [sP]; rfl)
   refine pv 2 27 ?_ #[X,X,X,O,O,O,O,O,O,O,O,O,O,O,O,O,O,O] rfl rfl (by kernel_rfl) (fun _ _ _ h => h) ⟨by rfl, ?_⟩ ?_ ?_ ?_; rotate_left; (intro w'; go_simp; with_reducible rfl); rotate_left; (simp only [sP]; rfl)
   refine pv 3 28 ?_ #[X,X,X,X,O,O,O,O,O,O,O,O,O,O,O,O,O,O] rfl rfl (by kernel_rfl) (fun _ _ _ h => h) ⟨by rfl, ?_⟩ ?_ ?_ ?_; rotate_left; (intro w'; go_simp; with_reducible rfl); rotate_left; (simp only [sP]; rfl)
   refine pv 5 30 ?_ #[X,X,X,X,O,X,O,O,O,O,O,O,O,O,O,O,O,O] rfl rfl (by kernel_rfl) (fun _ _ _ h => h) ⟨by rfl, ?_⟩ ?_ ?_ ?_; rotate_left; (intro w'; go_simp; with_reducible rfl); rotate_left; (simp only [sP]; rfl)
   refine pv 6 31 ?_ #[X,X,X,X,O,X,X,O,O,O,O,O,O,O,O,O,O,O] rfl rfl (by kernel_rfl) (fun _ _ _ h => h) ⟨by rfl, ?_⟩ ?_ ?_ ?_; rotate_left; (intro w'; go_simp; with_reducible rfl); rotate_left; (simp only [sP]; rfl)
   refine pv 7 32 ?_ #[X,X,X,X,O,X,X,X,O,O,O,O,O,O,O,O,O,O] rfl rfl (by kernel_rfl) (fun _ _ _ h => h) ⟨by rfl, ?_⟩ ?_ ?_ ?_; rotate_left; (intro w'; go_simp; with_reducible rfl); rotate_left; (simp only [sP]; rfl)
   refine pv 8 33 ?_ #[X,X,X,X,O,X,X,X,X,O,O,O,O,O,O,O,O,O] rfl rfl (by kernel_rfl) (fun _ _ _ h => h) ⟨by rfl, ?_⟩ ?_ ?_ ?_; rotate_left; (intro w'; go_simp; with_reducible rfl); rotate_left; (simp only [sP]; rfl)
   refine pv 9 34 ?_ #[X,X,X,X,O,X,X,X,X,X,O,O,O,O,O,O,O,O] rfl rfl (by kernel_rfl) (fun _ _ _ h => h) ⟨by rfl, ?_⟩ ?_ ?_ ?_; rotate_left; (intro w'; go_simp; with_reducible rfl); rotate_left; (simp only [sP]; rfl)
   refine pv 10 35 ?_ #[X,X,X,X,O,X,X,X,X,X,X,O,O,O,O,O,O,O] rfl rfl (by kernel_rfl) (fun _ _ _ h => h) ⟨by rfl, ?_⟩ ?_ ?_ ?_; rotate_left; (intro w'; go_simp; with_reducible rfl); rotate_left; (simp only [sP]; rfl)
   refine pv 14 39 ?_ #[X,X,X,X,O,X,X,X,X,X,X,O,O,O,X,O,O,O] rfl rfl (by kernel_rfl) (fun _ _ _ h => h) ⟨by rfl, ?_⟩ ?_ ?_ ?_; rotate_left; (intro w'; go_simp; with_reducible rfl); rotate_left; (simp only [sP]; rfl)
   refine tv 4 29 ?_ #[X,X,X,X,X,X,X,X,X,X,X,O,O,O,X,O,O,O] rfl rfl (by kernel_rfl) (fun _ _ _ h => h) ⟨by rfl, ?_⟩ hHeld ?_ ?_ ?_; rotate_left; (rintro w' ⟨s0, s1, s2⟩; go_simp; with_reducible rfl); rotate_left; (simp only [sP]; rfl)
   refine tv 11 36 ?_ #[X,X,X,X,X,X,X,X,X,X,X,X,O,O,X,O,O,O] rfl rfl (by kernel_rfl) (fun _ _ _ h => h) ⟨by rfl, ?_⟩ hHeld ?_ ?_ ?_; rotate_left; (rintro w' ⟨s0, s1, s2⟩; go_simp; with_reducible rfl); rotate_left; (simp only [sP]; rfl)
   refine pv 12 37 ?_ #[X,X,X,X,X,X,X,X,X,X,X,X,X,O,X,O,O,O] rfl rfl (by kernel_rfl) (fun _ _ _ h => h) ⟨by rfl, ?_⟩ ?_ ?_ ?_; rotate_left; (intro w'; go_simp; with_reducible rfl); rotate_left; (simp only [sP]; rfl)
   refine pv 13 38 ?_ #[X,X,X,X,X,X,X,X,X,X,X,X,X,X,X,O,O,O] rfl rfl (by kernel_rfl) (fun _ _ _ h => h) ⟨by rfl, ?_⟩ ?_ ?_ ?_; rotate_left; (intro w'; go_simp; with_reducible rfl); rotate_left; (simp only [sP]; rfl)
   refine pv 15 40 ?_ #[X,X,X,X,X,X,X,X,X,X,X,X,X,X,X,X,O,O] rfl rfl (by kernel_rfl) (fun _ _ _ h => h) ⟨by rfl, ?_⟩ ?_ ?_ ?_; rotate_left; (intro w'; go_simp; with_reducible rfl); rotate_left; (simp only [sP]; rfl)
   refine pv 16 41 ?_ #[X,X,X,X,X,X,X,X,X,X,X,X,X,X,X,X,X,O] rfl rfl (by kernel_rfl) (fun _ _ _ h => h) ⟨by rfl, ?_⟩ ?_ ?_ ?_; rotate_left; (intro w'; go_simp; with_reducible rfl); rotate_left; (simp only [sP]; rfl)
   refine last_ (i := 17) (N := none) #[X,X,X,X,X,X,X,X,X,X,X,X,X,X,X,X,X,X] rfl rfl (by kernel_rfl) (by decide) (fun K hK => ?_)
   have hcu := HCU.out
   have hfu : World.frozen? _ ⟨g, p, none⟩ = false := blk_frozen (Classical.choose_spec (Kd.N_typed HH.out.2.1 g rfl)) p
   refine skip_ (w1 := ?_) (by rfl) rfl ?_ ?_
   rotate_left
   ·
    go_simp
    rfl
   refine hK.out _ _ ?_
   clear hK K
   refine done_ (by kernel_rfl) ?_
   obtain ⟨-, -, -, hcr_3, hcr_4, -, -, hcr_7, -, -, -, -, hfr_3, hfr_4, -, -, hfr_7, -⟩ := cs9 BKr.out
   go_wp2_with (fail)
   have hax := AX.out
   have hlk := HK.out
   have hdd := HDD.out
   have hjj := HJ.out
   have K1 := (HH.out.setSlot (i := p) (okv := fun _ => False) (x := []) (v := .slice none 0 0) (by rw [wipeF_len]; exact HPL.out) (Kd.V_nil _ _ _ _ _) (fun _ h => h.elim)).1
   have Q1 := HW0.out.below HB.out
   have hog : ok g ∨ w.heap.size ≤ g := (HH.out.2.1.1 g rfl).1.2
   have hbg : base ≤ g := (HH.out.bd g (HH.out.2.1.1 g rfl).1).1
   have Q2 : Wrote base ok w (w2.setCell ⟨g, p, none⟩ (.slice none 0 0)) := hog.elim (fun h => Q1.cell (g := g) (j := p) h hbg _) (fun h => Q1.new (g := g) (j := p) h _)
   go_roundg (gk - 1)
   case measure => omega
   case rel =>
    refine ⟨k + 1, by first | rw [show wrap64 ((k : Int) + 1) = ((k + 1 : Nat) : Int) by unfold wrap64; omega] | (push_cast; rfl), Aside0.mk ⟨by omega, by omega⟩, Aside0.mk ?_, Aside0.mk Q2⟩
    rw [wipeF_end, ← HP.out]
    exact K1.gr HH0.out.low (fun q hq => hq.2) HH0.out.base_
  ·
   have b2 : decide ((k : Int) < (j : Int)) = false := decide_eq_false (by omega)
   have b2' : decide ((k : Int) < (dn : Int) * 2) = false := decide_eq_false (by have := HJ.out; omega)
   have b3 : decide (k < j) = false := decide_eq_false hlt
   have b4 : (k < j) = False := eq_false hlt
   have ek : k = j := by
    have := AX.out
    omega
   subst ek
   have hx := HX.out
   have hln := HL.out.2.2.1
   have f1 : (xn < m) = True := eq_true (by omega)
   have f2 : decide ((xn : Int) < (m : Int)) = true := decide_eq_true (by omega)
   obtain ⟨u0, hcu, hfu⟩ := HH.out.goneCell (i := xn) (by omega)
   clear hlt hx hln
   obtain ⟨-, -, -, hcr_3, hcr_4, -, -, hcr_7, -, -, -, -, hfr_3, hfr_4, -, -, hfr_7, -⟩ := cs9 BKr.out
   go_wp2_with (fail)
   first | go_ret | go_ret2
   have K1 := (HH.out.setGone (i := xn) (x := true)).1
   have hog : ok g2 ∨ w.heap.size ≤ g2 := (HH.out.2.2.1.1 g2 rfl).2
   have hbg : base ≤ g2 := (HH.out.bd g2 (HH.out.2.2.1.1 g2 rfl)).1
   have Q2 : Wrote base ok w (wr.setCell ⟨g2, xn, none⟩ (.bool true)) := hog.elim (fun h => HW0.out.cell (g := g2) (j := xn) h hbg _) (fun h => HW0.out.new (g := g2) (j := xn) h _)
   exact ⟨rfl, K1.gr HH0.out.low (fun q hq => hq.2) HH0.out.base_, Q2⟩
end Go.Proofs.Ytemmhgfjfbdggaa.P
namespace Go.Proofs.Ytemmhgfjfbdggaa.P
open Go.RowKit Go.Proofs.YtemmhgfjfbdggaaW.PrintWords Go.Proofs.YtemmhgfjfbdggaaW.PrintLast Go.Proofs.YtemmhgfjfbdggaaW.PrintMore
attribute [local go_sem] max2_int min2_int max_two min_two max_three min_three max_four min_four
set_option linter.unusedVariables false
set_option linter.unusedSimpArgs false
set_option maxHeartbeats 8000000 in
set_option maxRecDepth 100000 in
theorem ROf (k : Nat) (a b c d : Int) (A : Option Addr) (cc : Nat) (l r5 : List (List Int)) (w : World) (hC : Kd.C (Kd.slice 5 (Kd.int .u8)) w A l.length l) (hcc : l.length ≤ cc) (hT : twoslotref08_Twin.f k a b c d l = some (a, b, c, d, r5)) (h0 : 0 ≤ a + b) (h1 : a + b ≤ 100) : Calls Try.prog 13 #[.agg #[.int .i64 a, .int .i64 b, .int .i64 c, .int .i64 d, .slice A l.length cc]] w fun e w' => ∃ (g : Nat) (A4 : Option Addr) (c4 : Nat) (A7 : Option Addr) (c7 : Nat), e = .returned (.pointer (some ⟨g, 0, none⟩)) ∧ RefO w' w.heap.size (fun k_ => w.heap.size ≤ k_ ∧ k_ < w'.heap.size) g A4 r5.length c4 A7 (List.replicate (a + b).toNat false).length c7 a b c d r5 (List.replicate (a + b).toNat false) false (-1) 0 ∧ Below w.heap.size w w' := by
 have hu36 := Try.underlying36
 have hu23 := Try.underlying23
 have hu80 := Try.underlying80
 have HB := Aside0.mk (Below.refl w.heap.size w)
 have HC := Aside0.mk hC
 have HCC := Aside0.mk hcc
 have HT := Aside0.mk hT
 have HN := Aside0.mk (show twoslotref06_N.f a b c d = some (a + b) by unfold twoslotref06_N.f; congr 1; unfold wrap64; omega)
 have H0 := Aside0.mk h0
 have H1 := Aside0.mk h1
 clear hC hcc hT h0 h1
 go_enter Try.func13, Try.ntmps13
 have tok1 : True := trivial
 go_wp2_with (first | (have _ := tok1; (with_reducible refine gate_dst (N := 1) rfl ?_); refine box_event rfl (N := 1) rfl (cs := #[.int .i64 a, .int .i64 b, .int .i64 c, .int .i64 d, .slice A l.length cc]) (t := 36) (by go_simp; try rfl) ?_; intro g1 hg w1 hbox hb; have hs : Below w.heap.size w w1 := below_step Lt8.b hb; have SZ1 := Aside0.mk (show w.heap.size ≤ g1 ∧ g1 < w1.heap.size from ⟨by rw [hg]; exact (below_size Lt8.b), blk_lt hbox⟩); replace HB := Aside0.mk (below_step HB.out hs); have BKg1 := Aside0.mk hbox; clear hb hbox hg hs; obtain ⟨hcg1_0, hcg1_1, hcg1_2, hcg1_3, hcg1_4, hfg1_0, hfg1_1, hfg1_2, hfg1_3, hfg1_4⟩ := cs5 BKg1.out; clear tok1))
 (try clear hcg1_0 hfg1_0)
 (try clear hcg1_1 hfg1_1)
 (try clear hcg1_2 hfg1_2)
 (try clear hcg1_3 hfg1_3)
 (try clear hcg1_4 hfg1_4)
 have hs : Below w1.heap.size w1 (World.drew w1) := below_drew1 (Below.refl _ _)
 replace BKg1 := Aside0.mk (blk_below BKg1.out hs)
 replace HB := Aside0.mk (below_step HB.out hs)
 clear hs
 refine start_ (n := 9) (S := fun w' => w'.cell? ⟨g1, 0, none⟩ = some (.int .i64 a) ∧ w'.cell? ⟨g1, 1, none⟩ = some (.int .i64 b) ∧ w'.cell? ⟨g1, 2, none⟩ = some (.int .i64 c) ∧ w'.cell? ⟨g1, 3, none⟩ = some (.int .i64 d) ∧ w'.cell? ⟨g1, 4, none⟩ = some (.slice A l.length cc)) (ds := []) #[O,O,O,O,O,O,O,O,O] (by kernel_rfl) rfl rfl ⟨(blk_cell BKg1.out 0).trans rfl, (blk_cell BKg1.out 1).trans rfl, (blk_cell BKg1.out 2).trans rfl, (blk_cell BKg1.out 3).trans rfl, (blk_cell BKg1.out 4).trans rfl⟩ (fun hHeld => ?_)
 generalize World.drew w1 = w2 at HB BKg1 hHeld ⊢
 refine pv 2 5 ?_ #[O,O,X,O,O,O,O,O,O] rfl rfl (by kernel_rfl) (fun _ _ _ h => h) ⟨by rfl, ?_⟩ ?_ ?_ ?_; rotate_left; (intro w'; go_simp; with_reducible rfl); rotate_left; (simp only [sP]; rfl)
 refine tv 0 3 ?_ #[X,O,X,O,O,O,O,O,O] rfl rfl (by kernel_rfl) (fun _ _ _ h => h) ⟨by rfl, ?_⟩ hHeld ?_ ?_ ?_; rotate_left; (rintro w' ⟨s0, s1, s2, s3, s4⟩; go_simp; with_reducible rfl); rotate_left; (simp only [sP]; rfl)
 refine tv 3 6 ?_ #[X,O,X,X,O,O,O,O,O] rfl rfl (by kernel_rfl) (fun _ _ _ h => h) ⟨by rfl, ?_⟩ hHeld ?_ ?_ ?_; rotate_left; (rintro w' ⟨s0, s1, s2, s3, s4⟩; go_simp; with_reducible rfl); rotate_left; (simp only [sP]; rfl)
 refine one_ (i := 1) (N := some 4) #[X,X,X,X,O,O,O,O,O] rfl rfl (by kernel_rfl) (by decide) (fun K hK => ?_)
 refine goes_ Try.func29 (by kernel_rfl) rfl #[.agg #[.int .i64 a, .int .i64 b, .int .i64 c, .int .i64 d, .slice A l.length cc]] (by rfl) rfl rfl (by simp only [List.map_toArray, List.map_cons, List.map_nil]; rfl) ?_
 with_reducible refine (twoslotref08_Twin.calls k a b c d A cc l a b c d r5 _ ?s1 HCC.out HT.out).mono ?_
 (case s1 => exact Kd.C_below HC.out HB.out)
 rintro e wa ⟨v4, rfl, ho, hb⟩
 refine ⟨_, rfl, ?_⟩
 obtain ⟨A4, c4, e4_⟩ := Kd.N_slice ho
 subst e4_
 have HN4 := Aside0.mk (Kd.N_mono (Kd.N_lower (Kd.N_bound ho) HB.out.size) (fun k hk => ⟨Nat.le_trans HB.out.size hk.1, hk.2⟩) : (Kd.slice 5 (Kd.int .u8)).N 45 wa w.heap.size (fun k => w.heap.size ≤ k ∧ k < wa.heap.size) _ r5)
 have HSZ := Aside0.mk (Nat.le_refl wa.heap.size)
 have HL4 := Aside0.mk (Kd.N_reads' ho).2.1
 have HS4 := Aside0.mk HB.out.size
 have n_ := Aside0.mk (blk_below BKg1.out hb)
 have m_ := Aside0.mk (below_step HB.out hb)
 clear BKg1 HB
 have BKg1 := n_
 have HB := m_
 clear n_ m_
 clear ho hb
 refine hK.out _ _ ⟨(blk_cell BKg1.out 0).trans rfl, (blk_cell BKg1.out 1).trans rfl, (blk_cell BKg1.out 2).trans rfl, (blk_cell BKg1.out 3).trans rfl, (blk_cell BKg1.out 4).trans rfl⟩ (fun hHeld => ?_)
 clear hK K
 refine norm_ (a' := ?_) ?_ ?_
 rotate_left
 ·
  show Act.put _ (some 4) _ = _
  simp only [sP]
  rfl
 refine one_ (i := 4) (N := some 7) #[X,X,X,X,X,O,O,O,O] rfl rfl (by kernel_rfl) (by decide) (fun K hK => ?_)
 refine goes_ Try.func41 (by kernel_rfl) rfl #[.agg #[.int .i64 a, .int .i64 b, .int .i64 c, .int .i64 d]] (by rfl) rfl rfl (by simp only [List.map_toArray, List.map_cons, List.map_nil]; rfl) ?_
 with_reducible refine (twoslotref06_N.calls a b c d (a + b) _ HN.out).mono ?_
 rintro e wb ⟨rfl, hb⟩
 refine ⟨_, rfl, ?_⟩
 have q_ := Aside0.mk (Kd.N_below HN4.out hb)
 clear HN4
 have HN4 := q_
 clear q_
 have q_ := Aside0.mk (Nat.le_trans HSZ.out hb.size)
 clear HSZ
 have HSZ := q_
 clear q_
 have n_ := Aside0.mk (blk_below BKg1.out hb)
 have m_ := Aside0.mk (below_step HB.out hb)
 clear BKg1 HB
 have BKg1 := n_
 have HB := m_
 clear n_ m_
 clear hb
 refine hK.out _ _ ⟨(blk_cell BKg1.out 0).trans rfl, (blk_cell BKg1.out 1).trans rfl, (blk_cell BKg1.out 2).trans rfl, (blk_cell BKg1.out 3).trans rfl, (blk_cell BKg1.out 4).trans rfl⟩ (fun hHeld => ?_)
 clear hK K
 refine norm_ (a' := ?_) ?_ ?_
 rotate_left
 ·
  show Act.put _ (some 7) _ = _
  simp only [sP]
  rfl
 refine one_ (i := 5) (N := some 8) #[X,X,X,X,X,X,O,O,O] rfl rfl (by kernel_rfl) (by decide) (fun K hK => ?_)
 refine Kd.R_make_step Kd.bool w.heap.size 4 (by rfl) (N := 8) rfl 76 _ _ rfl _ rfl rfl Try.underlying76 (.bool false) 1 info4 rfl (by decide) (by omega) false (ok := fun _ => True) (okp := fun _ => True) rfl (fun _ hk => hk) trivial H0.out (by have := H1.out; omega) HB.out HB.out.size ?_
 intro vm8 wc ho hb hg_ hnew_
 obtain ⟨A7, c7, e7_⟩ := Kd.R_slice ho
 subst e7_
 have HO7 := Aside0.mk ho
 have HN7 := Aside0.mk (show ∀ k, (Value.slice A7 (List.replicate (a + b).toNat false).length c7).ownBlock = some k → wa.heap.size ≤ k from fun k hk => by obtain ⟨q, hq, hle⟩ := hnew_; rw [hq] at hk; injection hk with hk; have := HSZ.out; omega)
 have q_ := Aside0.mk (Kd.N_grown HN4.out hg_ (fun k hk => by simp))
 clear HN4
 have HN4 := q_
 have z_ := Aside0.mk (Nat.le_trans HSZ.out hg_.size)
 clear HSZ
 have HSZ := z_
 clear z_
 have n_ := Aside0.mk (blk_grown BKg1.out hg_ (by simp))
 clear BKg1 HB q_
 have BKg1 := n_
 have HB := Aside0.mk hb
 clear n_ hb hg_ hnew_ ho
 refine hK.out _ _ ⟨(blk_cell BKg1.out 0).trans rfl, (blk_cell BKg1.out 1).trans rfl, (blk_cell BKg1.out 2).trans rfl, (blk_cell BKg1.out 3).trans rfl, (blk_cell BKg1.out 4).trans rfl⟩ (fun hHeld => ?_)
 clear hK K
 refine norm_ (a' := ?_) ?_ ?_
 rotate_left
 ·
  show Act.put _ (some 8) _ = _
  simp only [sP]
  rfl
 refine pv 6 9 ?_ #[X,X,X,X,X,X,X,O,O] rfl rfl (by kernel_rfl) (fun _ _ _ h => h) ⟨by rfl, ?_⟩ ?_ ?_ ?_; rotate_left; (intro w'; go_simp; with_reducible rfl); rotate_left; (simp only [sP]; rfl)
 refine one_ (i := 7) (N := some 10) #[X,X,X,X,X,X,X,X,O] rfl rfl (by kernel_rfl) (by decide) (fun K hK => ?_)
 refine box_step (by rfl) (N := 10) rfl (cs := #[.int .i64 a, .int .i64 b, .int .i64 c, .int .i64 d, .slice A4 r5.length c4, .bool false, .int .i64 (-1), .slice A7 (List.replicate (a + b).toNat false).length c7, .int .i64 0]) (t := 80) ?hr ?_
 (case hr => first | (go_simp; done) | (go_simp; rfl))
 intro g hg wd hbox hb
 have BKg := Aside0.mk hbox
 have HGE := Aside0.mk (show w.heap.size ≤ g ∧ wa.heap.size ≤ g by rw [hg]; exact ⟨HB.out.size, HSZ.out⟩)
 have q_ := Aside0.mk (Kd.N_below HN4.out hb)
 have z_ := Aside0.mk (Nat.le_trans HSZ.out hb.size)
 clear HSZ
 have HSZ := z_
 clear z_
 have p_ := Aside0.mk (Kd.R_below HO7.out hb)
 clear HN4 HO7
 have HN4 := q_
 have HO7 := p_
 have n_ := Aside0.mk (blk_below BKg1.out hb)
 have m_ := Aside0.mk (below_step HB.out hb)
 clear BKg1 HB
 have BKg1 := n_
 have HB := m_
 clear n_ m_
 clear q_ p_ hbox hb hg
 refine hK.out _ _ ⟨(blk_cell BKg1.out 0).trans rfl, (blk_cell BKg1.out 1).trans rfl, (blk_cell BKg1.out 2).trans rfl, (blk_cell BKg1.out 3).trans rfl, (blk_cell BKg1.out 4).trans rfl⟩ (fun hHeld => ?_)
 clear hK K
 refine norm_ (a' := ?_) ?_ ?_
 rotate_left
 ·
  show Act.put _ (some 10) _ = _
  simp only [sP]
  rfl
 refine pv 8 2 ?_ #[X,X,X,X,X,X,X,X,X] rfl rfl (by kernel_rfl) (fun _ _ _ h => h) ⟨by rfl, ?_⟩ ?_ ?_ ?_; rotate_left; (intro w'; go_simp; with_reducible rfl); rotate_left; (simp only [sP]; rfl)
 refine done_ (by kernel_rfl) ?_
 go_wp2_with (fail)
 go_ret
 refine ⟨_, A4, c4, A7, c7, rfl, ⟨BKg.out, ?_, ?_, ⟨HGE.out.1, blk_lt BKg.out⟩, fun k hk => hk⟩, HB.out⟩
 ·
  exact Kd.N_mono HN4.out (fun k hk => ⟨⟨hk.1, Nat.lt_of_lt_of_le hk.2 HSZ.out⟩, fun e => by have := HGE.out.2; have := hk.2; omega, fun e => by have := HN7.out k e.symm; have := hk.2; omega⟩)
 ·
  exact Kd.R_mono (Kd.R_bound HO7.out) (fun k hk => ⟨hk.2.1, hk.2.2.1⟩)
end Go.Proofs.Ytemmhgfjfbdggaa.P
