import Derived.Test.YtemmhgfjfbdggaaM8b
import Derived.Test.YtemmhgfjfbdggaaM8h
namespace Go.Proofs.Ytemmhgfjfbdggaa.P
open Go.RowKit Go.Proofs.YtemmhgfjfbdggaaW.PrintWords Go.Proofs.YtemmhgfjfbdggaaW.PrintLast Go.Proofs.YtemmhgfjfbdggaaW.PrintMore
attribute [local go_sem] max2_int min2_int max_two min_two max_three min_three max_four min_four
set_option linter.unusedVariables false
set_option linter.unusedSimpArgs false
set_option maxHeartbeats 8000000 in
set_option maxRecDepth 100000 in
theorem hold_any (D dr : Nat) (As Ag : Option Addr) (n cs m cg : Nat) (a b c d sz : Int) (slots : List (List Int)) (gone : List Bool) (off : Bool) (cut wt : Int) (base : Nat) (ok : Nat → Prop) (x y z : Int) (B : Option Addr) (p : List Int) (cc i : Nat) (w : World) (H : DiskO w base ok D dr As n cs Ag m cg a b c d sz slots gone off cut wt) (hm : m ≤ 16) (hd : 0 ≤ d ∧ d ≤ 4096) (hat : atOf m d x y z = (i : Int)) (hi : i < slots.length) (hp : (p.length : Int) = sz) (hple : p.length ≤ cc) (hC : Kd.C (Kd.int .u8) w B p.length p) (hpl : p.length ≤ 1000000) : Calls Try.prog 47 #[.pointer (some ⟨dr, 0, none⟩), .agg #[.int .i64 x, .int .i64 y, .int .i64 z, .slice B p.length cc]] w fun e w' => e = .returned (.int .i64 0) ∧ DiskO w' base (Gr ok w w') D dr As n cs Ag m cg a b c d sz (slots.set i p) gone off cut wt ∧ Wrote base ok w w' := by
 obtain ⟨g, cap, e, _⟩ := Kd.R_form H.2.2.1 (by omega)
 injection e with e1 e2 e3
 subst e1
 exact hold_yes D dr g Ag n cs m cg a b c d sz slots gone off cut wt base ok x y z B p cc i w H hm hd hat hi hp hple hC hpl
theorem Wrote.thenG {base : Nat} {ok : Nat → Prop} {w W W2 : World} (h : Wrote base ok w W) (k : Wrote base (Gr ok w W) W W2) : Wrote base ok w W2 := h.then_ k (fun _ hk => hk.2)
set_option maxHeartbeats 8000000 in
set_option maxRecDepth 100000 in
theorem Write_yes (D dr : Nat) (As Ag : Option Addr) (n cs m cg : Nat) (a b c d sz : Int) (slots : List (List Int)) (gone : List Bool) (off : Bool) (cut wt : Int) (base : Nat) (ok : Nat → Prop) (l : List S51) (A : Option Addr) (cl : Nat) (okl : Nat → Prop) (w : World) (H : DiskO w base ok D dr As n cs Ag m cg a b c d sz slots gone off cut wt) (hm : m ≤ 16) (hd : 0 ≤ d ∧ d ≤ 4096) (hsz : sz ≤ 1000000) (hn : (slots.length : Int) = (m : Int) * d * 2) (hF : Kd.F k51 w okl A l.length l) (hdis : ∀ k, okl k → ¬ ok k) (hlb : ∀ k, okl k → k < w.heap.size) (hcl : l.length ≤ cl) (hln : l.length ≤ 100000) (hwr : 0 ≤ wt ∧ wt ≤ 1000000) (hcu : -1 ≤ cut ∧ cut ≤ 9223372036854775807) : Calls Try.prog 18 #[.pointer (some ⟨D, 0, none⟩), .slice A l.length cl] w fun e w' => e = .returned (.int .i64 (putsL m d sz l ⟨slots, off, cut, wt⟩).2) ∧ DiskO w' base (Gr ok w w') D dr As n cs Ag m cg a b c d sz (putsL m d sz l ⟨slots, off, cut, wt⟩).1.slots gone (putsL m d sz l ⟨slots, off, cut, wt⟩).1.off (putsL m d sz l ⟨slots, off, cut, wt⟩).1.cut (putsL m d sz l ⟨slots, off, cut, wt⟩).1.wr ∧ Wrote base ok w w' := by
 have hu51 := Try.underlying51
 have HM := Aside0.mk hm
 have HDD := Aside0.mk hd
 have HSZ := Aside0.mk hsz
 have HNN := Aside0.mk hn
 have HLN := Aside0.mk hln
 have HF0 := Aside0.mk hF
 have HDIS := Aside0.mk hdis
 have HLB := Aside0.mk hlb
 have HWR := Aside0.mk hwr
 have HCU := Aside0.mk hcu
 have HH0 := Aside0.mk H
 have HB := Aside0.mk (Wrote.start (ok := ok) (w := w) H.low)
 have BKD := Aside0.mk H.1
 clear H hm hd hsz hn hF hdis hlb hcl hln hwr hcu
 go_enter Try.func18, Try.ntmps18
 go_wp2_with (go_at_call 45; (with_reducible refine (made_yes D dr _ _ _ _ (sB BKD.out)).mono ?_); rintro e w1 ⟨rfl, hd⟩; have n_ := Aside0.mk (Wrote.below HB.out (hd.below)); clear HB; have HB := n_; have m_ := Aside0.mk (DiskO.below HH0.out (hd.below)); clear hd)
 clear BKD
 go_loopg [14] l.length (fun kq v14 wr => ∃ (k : Nat) (st : DS), v14 = .int .i64 (k : Int) ∧ Aside0 (k ≤ l.length ∧ l.length - k ≤ kq) ∧ Aside0 (DiskO wr base (Gr ok w wr) D dr As n cs Ag m cg a b c d sz st.slots gone st.off st.cut st.wr) ∧ Aside0 (Wrote base ok w wr) ∧ Aside0 (putsL m d sz (l.drop k) st = putsL m d sz l ⟨slots, off, cut, wt⟩ ∧ st.slots.length = slots.length ∧ 0 ≤ st.wr ∧ st.wr ≤ wt + k ∧ -1 ≤ st.cut ∧ st.cut ≤ 9223372036854775807))
 case atStart =>
  refine ⟨0, ⟨slots, off, cut, wt⟩, rfl, Aside0.mk ⟨by omega, by omega⟩, Aside0.mk (m_.out.gr HB.out.1 (fun k hk => .inl hk) HH0.out.base_), HB, Aside0.mk ⟨by rw [List.drop_zero], rfl, HWR.out.1, ?_, HCU.out.1, HCU.out.2⟩⟩
  show wt ≤ wt + ((0 : Nat) : Int)
  omega
 case round =>
  clear HB m_ n_
  obtain ⟨k, ⟨sl, of, cu, wn⟩, rfl, AX, HH_, HW0, HP_⟩ := hrel
  have HH := Aside0.mk (show DiskO wr base (Gr ok w wr) D dr As n cs Ag m cg a b c d sz sl gone of cu wn from HH_.out)
  have HP := Aside0.mk (show putsL m d sz (l.drop k) ⟨sl, of, cu, wn⟩ = putsL m d sz l ⟨slots, off, cut, wt⟩ ∧ sl.length = slots.length ∧ 0 ≤ wn ∧ wn ≤ wt + k ∧ -1 ≤ cu ∧ cu ≤ 9223372036854775807 from HP_.out)
  clear HH_ HP_
  by_cases hlt : k < l.length
  ·
   have hFr : Kd.F k51 wr okl A l.length l := Kd.F_kept HF0.out HW0.out.2.2 HDIS.out
   obtain ⟨ad, A3, c3, x, eA, hdr, hxl, hle, q0, q1, q2, q3, hFx⟩ := puts_elem hFr k hlt
   subst eA
   have HDR := Aside0.mk hdr
   have ALE := Aside0.mk hle
   have b1 : decide ((k : Int) < (l.length : Int)) = true := decide_eq_true (by omega)
   have b2 : decide (k < l.length) = true := decide_eq_true hlt
   have b3 : (k < l.length) = True := eq_true hlt
   have HK := Aside0.mk hlt
   have Hc0 := Aside0.mk q0
   have Hc1 := Aside0.mk q1
   have Hc2 := Aside0.mk q2
   have Hc3 := Aside0.mk q3
   have HFx := Aside0.mk hFx
   have BKD := Aside0.mk HH.out.1
   have BKdr := Aside0.mk HH.out.2.1
   have hneDd : D ≠ dr := HH.out.ne
   have hnedD : dr ≠ D := hneDd.symm
   have HZ1 := Aside0.mk (show D < wr.heap.size from blk_lt HH.out.1)
   have HZ2 := Aside0.mk (show dr < wr.heap.size from blk_lt HH.out.2.1)
   have HKD := Aside0.mk (show ∀ k, okl k → k ≠ D from fun k hk e => by
    have h1 := HH.out.2.2.2.2.1
    rcases h1.2 with h | h
    ·
     exact HDIS.out k hk (by rw [e]; exact h)
    ·
     have h2 := HLB.out k hk
     omega)
   have HB := Aside0.mk (Wrote.start (ok := Gr ok w wr) (w := wr) HH.out.low)
   have HHr := Aside0.mk HH.out
   clear hlt hFr hdr hxl hle q0 q1 q2 q3 hFx
   by_cases c1 : of = true
   ·
    subst c1
    obtain ⟨hcD_0, hcD_1, hcD_2, hcD_3, hfD_0, hfD_1, hfD_2, hfD_3⟩ := cs4 BKD.out
    obtain ⟨-, -, -, -, hcdr_4, -, -, -, -, -, -, hfdr_4, -, -⟩ := cs7 BKdr.out
    have xHc0 := Hc0.out
    have xHc1 := Hc1.out
    have xHc2 := Hc2.out
    have xHc3 := Hc3.out
    have tok1 : True := trivial
    go_wp2_with (first | (have _ := tok1; (with_reducible refine gate_dst (N := 6) rfl ?_); refine box_event rfl (N := 6) rfl (cs := #[.int .i64 0, .int .i64 0, .int .i64 0, .slice none 0 0]) (t := 51) (by go_simp; try rfl) ?_; intro g6 hg w1 hbox hb; have hs : Below wr.heap.size wr w1 := below_step Lt8.b hb; have SZ1 := Aside0.mk (show wr.heap.size ≤ g6 ∧ g6 < w1.heap.size from ⟨by rw [hg]; exact (below_size Lt8.b), blk_lt hbox⟩); (try clear hcD_0 hfD_0); (try clear hcD_1 hfD_1); (try clear hcD_2 hfD_2); (try clear hcD_3 hfD_3); (try clear hcdr_4 hfdr_4); (try clear xHc0); (try clear xHc1); (try clear xHc2); (try clear xHc3); replace BKD := Aside0.mk (blk_below BKD.out hs); replace BKdr := Aside0.mk (blk_below BKdr.out hs); replace Hc0 := Aside0.mk (pw_cell_below hs Hc0.out); replace Hc1 := Aside0.mk (pw_cell_below hs Hc1.out); replace Hc2 := Aside0.mk (pw_cell_below hs Hc2.out); replace Hc3 := Aside0.mk (pw_cell_below hs Hc3.out); replace HHr := Aside0.mk (DiskO.below HHr.out hs); replace HFx := Aside0.mk (Kd.F_below HFx.out hs); replace HB := Aside0.mk (Wrote.below HB.out hs); have hneD_g6 : D ≠ g6 := (by have := SZ1.out; have := HZ1.out; have := HZ2.out; omega); have hneg6_D : g6 ≠ D := hneD_g6.symm; have hnedr_g6 : dr ≠ g6 := (by have := SZ1.out; have := HZ1.out; have := HZ2.out; omega); have hneg6_dr : g6 ≠ dr := hnedr_g6.symm; have BKg6 := Aside0.mk hbox; clear hb hbox hg hs; obtain ⟨hcD_0, hcD_1, hcD_2, hcD_3, hfD_0, hfD_1, hfD_2, hfD_3⟩ := cs4 BKD.out; obtain ⟨-, -, -, -, hcdr_4, -, -, -, -, -, -, hfdr_4, -, -⟩ := cs7 BKdr.out; have xHc0 := Hc0.out; have xHc1 := Hc1.out; have xHc2 := Hc2.out; have xHc3 := Hc3.out; obtain ⟨hcg6_0, hcg6_1, hcg6_2, hcg6_3, hfg6_0, hfg6_1, hfg6_2, hfg6_3⟩ := cs4 BKg6.out; clear tok1))
    (try clear xHc0)
    (try clear xHc1)
    (try clear xHc2)
    (try clear xHc3)
    (try clear hcD_0 hfD_0)
    (try clear hcD_1 hfD_1)
    (try clear hcD_2 hfD_2)
    (try clear hcD_3 hfD_3)
    (try clear hcdr_4 hfdr_4)
    (try clear hcg6_0 hfg6_0)
    (try clear hcg6_1 hfg6_1)
    (try clear hcg6_2 hfg6_2)
    (try clear hcg6_3 hfg6_3)
    replace BKD := Aside0.mk (blk_far BKD.out (p := ⟨g6, 0, none⟩) (by show _ ≠ _; have := HZ1.out; have := HZ2.out; have := SZ1.out; omega) (.int .i64 x.f0))
    replace BKdr := Aside0.mk (blk_far BKdr.out (p := ⟨g6, 0, none⟩) (by show _ ≠ _; have := HZ1.out; have := HZ2.out; have := SZ1.out; omega) (.int .i64 x.f0))
    replace HHr := Aside0.mk (DiskO.kept HHr.out (kept_set _ ⟨g6, 0, none⟩ (.int .i64 x.f0)) (fun k hk e => by have h1 := (HH.out.2.2.2.2.2.2 k hk).2; have h3 : k = g6 := e; have := HZ1.out; have := HZ2.out; have := SZ1.out; omega))
    replace HFx := Aside0.mk (Kd.F_far HFx.out (p := ⟨g6, 0, none⟩) (fun k hk e => by have h1 := HLB.out k hk; have h4 := HW0.out.size; have h3 : k = g6 := e; have := HZ1.out; have := HZ2.out; have := SZ1.out; omega) (.int .i64 x.f0))
    replace BKg6 := Aside0.mk (blk_put BKg6.out 0 (.int .i64 x.f0) rfl)
    replace HB := Aside0.mk (Wrote.new HB.out (g := g6) (j := 0) (by have := HZ1.out; have := HZ2.out; have := SZ1.out; omega) (.int .i64 x.f0))
    replace BKD := Aside0.mk (blk_far BKD.out (p := ⟨g6, 1, none⟩) (by show _ ≠ _; have := HZ1.out; have := HZ2.out; have := SZ1.out; omega) (.int .i64 x.f1))
    replace BKdr := Aside0.mk (blk_far BKdr.out (p := ⟨g6, 1, none⟩) (by show _ ≠ _; have := HZ1.out; have := HZ2.out; have := SZ1.out; omega) (.int .i64 x.f1))
    replace HHr := Aside0.mk (DiskO.kept HHr.out (kept_set _ ⟨g6, 1, none⟩ (.int .i64 x.f1)) (fun k hk e => by have h1 := (HH.out.2.2.2.2.2.2 k hk).2; have h3 : k = g6 := e; have := HZ1.out; have := HZ2.out; have := SZ1.out; omega))
    replace HFx := Aside0.mk (Kd.F_far HFx.out (p := ⟨g6, 1, none⟩) (fun k hk e => by have h1 := HLB.out k hk; have h4 := HW0.out.size; have h3 : k = g6 := e; have := HZ1.out; have := HZ2.out; have := SZ1.out; omega) (.int .i64 x.f1))
    replace BKg6 := Aside0.mk (blk_put BKg6.out 1 (.int .i64 x.f1) rfl)
    replace HB := Aside0.mk (Wrote.new HB.out (g := g6) (j := 1) (by have := HZ1.out; have := HZ2.out; have := SZ1.out; omega) (.int .i64 x.f1))
    replace BKD := Aside0.mk (blk_far BKD.out (p := ⟨g6, 2, none⟩) (by show _ ≠ _; have := HZ1.out; have := HZ2.out; have := SZ1.out; omega) (.int .i64 x.f2))
    replace BKdr := Aside0.mk (blk_far BKdr.out (p := ⟨g6, 2, none⟩) (by show _ ≠ _; have := HZ1.out; have := HZ2.out; have := SZ1.out; omega) (.int .i64 x.f2))
    replace HHr := Aside0.mk (DiskO.kept HHr.out (kept_set _ ⟨g6, 2, none⟩ (.int .i64 x.f2)) (fun k hk e => by have h1 := (HH.out.2.2.2.2.2.2 k hk).2; have h3 : k = g6 := e; have := HZ1.out; have := HZ2.out; have := SZ1.out; omega))
    replace HFx := Aside0.mk (Kd.F_far HFx.out (p := ⟨g6, 2, none⟩) (fun k hk e => by have h1 := HLB.out k hk; have h4 := HW0.out.size; have h3 : k = g6 := e; have := HZ1.out; have := HZ2.out; have := SZ1.out; omega) (.int .i64 x.f2))
    replace BKg6 := Aside0.mk (blk_put BKg6.out 2 (.int .i64 x.f2) rfl)
    replace HB := Aside0.mk (Wrote.new HB.out (g := g6) (j := 2) (by have := HZ1.out; have := HZ2.out; have := SZ1.out; omega) (.int .i64 x.f2))
    replace BKD := Aside0.mk (blk_far BKD.out (p := ⟨g6, 3, none⟩) (by show _ ≠ _; have := HZ1.out; have := HZ2.out; have := SZ1.out; omega) (.slice A3 x.f3.length c3))
    replace BKdr := Aside0.mk (blk_far BKdr.out (p := ⟨g6, 3, none⟩) (by show _ ≠ _; have := HZ1.out; have := HZ2.out; have := SZ1.out; omega) (.slice A3 x.f3.length c3))
    replace HHr := Aside0.mk (DiskO.kept HHr.out (kept_set _ ⟨g6, 3, none⟩ (.slice A3 x.f3.length c3)) (fun k hk e => by have h1 := (HH.out.2.2.2.2.2.2 k hk).2; have h3 : k = g6 := e; have := HZ1.out; have := HZ2.out; have := SZ1.out; omega))
    replace HFx := Aside0.mk (Kd.F_far HFx.out (p := ⟨g6, 3, none⟩) (fun k hk e => by have h1 := HLB.out k hk; have h4 := HW0.out.size; have h3 : k = g6 := e; have := HZ1.out; have := HZ2.out; have := SZ1.out; omega) (.slice A3 x.f3.length c3))
    replace BKg6 := Aside0.mk (blk_put BKg6.out 3 (.slice A3 x.f3.length c3) rfl)
    replace HB := Aside0.mk (Wrote.new HB.out (g := g6) (j := 3) (by have := HZ1.out; have := HZ2.out; have := SZ1.out; omega) (.slice A3 x.f3.length c3))
    have SZ2 := Aside0.mk (show w1.heap.size ≤ ((((w1.setCell ⟨g6, 0, none⟩ (.int .i64 x.f0)).setCell ⟨g6, 1, none⟩ (.int .i64 x.f1)).setCell ⟨g6, 2, none⟩ (.int .i64 x.f2)).setCell ⟨g6, 3, none⟩ (.slice A3 x.f3.length c3)).heap.size from by simp [World.setCell])
    generalize ((((w1.setCell ⟨g6, 0, none⟩ (.int .i64 x.f0)).setCell ⟨g6, 1, none⟩ (.int .i64 x.f1)).setCell ⟨g6, 2, none⟩ (.int .i64 x.f2)).setCell ⟨g6, 3, none⟩ (.slice A3 x.f3.length c3)) = w2 at HB BKD BKdr HHr HFx BKg6 SZ2 ⊢
    obtain ⟨hcD_0, hcD_1, hcD_2, hcD_3, hfD_0, hfD_1, hfD_2, hfD_3⟩ := cs4 BKD.out
    obtain ⟨-, -, -, -, hcdr_4, -, -, -, -, -, -, hfdr_4, -, -⟩ := cs7 BKdr.out
    obtain ⟨hcg6_0, hcg6_1, hcg6_2, hcg6_3, hfg6_0, hfg6_1, hfg6_2, hfg6_3⟩ := cs4 BKg6.out
    have hR : putsL m d sz l ⟨slots, off, cut, wt⟩ = (⟨sl, true, cu, wn⟩, 9) := by
     rw [← HP.out.1, HDR.out]
     have h1 : put1 m d sz x ⟨sl, true, cu, wn⟩ = (⟨sl, true, cu, wn⟩, 9) := by
      unfold put1
      rw [if_pos rfl]
     rw [putsL_stop (by rw [h1]; show (9 : Int) ≠ 0; decide), h1]
    go_ret
    rw [hR]
    exact ⟨rfl, HHr.out.gr HW0.out.1 (fun k hk => hk.2) HH0.out.base_, HW0.out.thenG HB.out⟩
   have c1 : of = false := by simpa using c1
   subst c1
   by_cases c2 : atOf m d x.f0 x.f1 x.f2 < 0
   ·
    have d1 : decide (atOf m d x.f0 x.f1 x.f2 < 0) = true := decide_eq_true c2
    have C2 := Aside0.mk c2
    clear c2
    obtain ⟨hcD_0, hcD_1, hcD_2, hcD_3, hfD_0, hfD_1, hfD_2, hfD_3⟩ := cs4 BKD.out
    obtain ⟨-, -, -, -, hcdr_4, -, -, -, -, -, -, hfdr_4, -, -⟩ := cs7 BKdr.out
    have xHc0 := Hc0.out
    have xHc1 := Hc1.out
    have xHc2 := Hc2.out
    have xHc3 := Hc3.out
    have tok2 : True := trivial
    go_wp2_with (first | (have _ := tok2; (with_reducible refine gate_dst (N := 6) rfl ?_); refine box_event rfl (N := 6) rfl (cs := #[.int .i64 0, .int .i64 0, .int .i64 0, .slice none 0 0]) (t := 51) (by go_simp; try rfl) ?_; intro g6 hg w3 hbox hb; have hs : Below wr.heap.size wr w3 := below_step Lt8.b hb; have SZ3 := Aside0.mk (show wr.heap.size ≤ g6 ∧ g6 < w3.heap.size from ⟨by rw [hg]; exact (below_size Lt8.b), blk_lt hbox⟩); (try clear hcD_0 hfD_0); (try clear hcD_1 hfD_1); (try clear hcD_2 hfD_2); (try clear hcD_3 hfD_3); (try clear hcdr_4 hfdr_4); (try clear xHc0); (try clear xHc1); (try clear xHc2); (try clear xHc3); replace BKD := Aside0.mk (blk_below BKD.out hs); replace BKdr := Aside0.mk (blk_below BKdr.out hs); replace Hc0 := Aside0.mk (pw_cell_below hs Hc0.out); replace Hc1 := Aside0.mk (pw_cell_below hs Hc1.out); replace Hc2 := Aside0.mk (pw_cell_below hs Hc2.out); replace Hc3 := Aside0.mk (pw_cell_below hs Hc3.out); replace HHr := Aside0.mk (DiskO.below HHr.out hs); replace HFx := Aside0.mk (Kd.F_below HFx.out hs); replace HB := Aside0.mk (Wrote.below HB.out hs); have hneD_g6 : D ≠ g6 := (by have := SZ3.out; have := HZ1.out; have := HZ2.out; omega); have hneg6_D : g6 ≠ D := hneD_g6.symm; have hnedr_g6 : dr ≠ g6 := (by have := SZ3.out; have := HZ1.out; have := HZ2.out; omega); have hneg6_dr : g6 ≠ dr := hnedr_g6.symm; have BKg6 := Aside0.mk hbox; clear hb hbox hg hs; obtain ⟨hcD_0, hcD_1, hcD_2, hcD_3, hfD_0, hfD_1, hfD_2, hfD_3⟩ := cs4 BKD.out; obtain ⟨-, -, -, -, hcdr_4, -, -, -, -, -, -, hfdr_4, -, -⟩ := cs7 BKdr.out; have xHc0 := Hc0.out; have xHc1 := Hc1.out; have xHc2 := Hc2.out; have xHc3 := Hc3.out; obtain ⟨hcg6_0, hcg6_1, hcg6_2, hcg6_3, hfg6_0, hfg6_1, hfg6_2, hfg6_3⟩ := cs4 BKg6.out; clear tok2))
    (try clear xHc0)
    (try clear xHc1)
    (try clear xHc2)
    (try clear xHc3)
    (try clear hcD_0 hfD_0)
    (try clear hcD_1 hfD_1)
    (try clear hcD_2 hfD_2)
    (try clear hcD_3 hfD_3)
    (try clear hcdr_4 hfdr_4)
    (try clear hcg6_0 hfg6_0)
    (try clear hcg6_1 hfg6_1)
    (try clear hcg6_2 hfg6_2)
    (try clear hcg6_3 hfg6_3)
    replace BKD := Aside0.mk (blk_far BKD.out (p := ⟨g6, 0, none⟩) (by show _ ≠ _; have := HZ1.out; have := HZ2.out; have := SZ3.out; omega) (.int .i64 x.f0))
    replace BKdr := Aside0.mk (blk_far BKdr.out (p := ⟨g6, 0, none⟩) (by show _ ≠ _; have := HZ1.out; have := HZ2.out; have := SZ3.out; omega) (.int .i64 x.f0))
    replace HHr := Aside0.mk (DiskO.kept HHr.out (kept_set _ ⟨g6, 0, none⟩ (.int .i64 x.f0)) (fun k hk e => by have h1 := (HH.out.2.2.2.2.2.2 k hk).2; have h3 : k = g6 := e; have := HZ1.out; have := HZ2.out; have := SZ3.out; omega))
    replace HFx := Aside0.mk (Kd.F_far HFx.out (p := ⟨g6, 0, none⟩) (fun k hk e => by have h1 := HLB.out k hk; have h4 := HW0.out.size; have h3 : k = g6 := e; have := HZ1.out; have := HZ2.out; have := SZ3.out; omega) (.int .i64 x.f0))
    replace BKg6 := Aside0.mk (blk_put BKg6.out 0 (.int .i64 x.f0) rfl)
    replace HB := Aside0.mk (Wrote.new HB.out (g := g6) (j := 0) (by have := HZ1.out; have := HZ2.out; have := SZ3.out; omega) (.int .i64 x.f0))
    replace BKD := Aside0.mk (blk_far BKD.out (p := ⟨g6, 1, none⟩) (by show _ ≠ _; have := HZ1.out; have := HZ2.out; have := SZ3.out; omega) (.int .i64 x.f1))
    replace BKdr := Aside0.mk (blk_far BKdr.out (p := ⟨g6, 1, none⟩) (by show _ ≠ _; have := HZ1.out; have := HZ2.out; have := SZ3.out; omega) (.int .i64 x.f1))
    replace HHr := Aside0.mk (DiskO.kept HHr.out (kept_set _ ⟨g6, 1, none⟩ (.int .i64 x.f1)) (fun k hk e => by have h1 := (HH.out.2.2.2.2.2.2 k hk).2; have h3 : k = g6 := e; have := HZ1.out; have := HZ2.out; have := SZ3.out; omega))
    replace HFx := Aside0.mk (Kd.F_far HFx.out (p := ⟨g6, 1, none⟩) (fun k hk e => by have h1 := HLB.out k hk; have h4 := HW0.out.size; have h3 : k = g6 := e; have := HZ1.out; have := HZ2.out; have := SZ3.out; omega) (.int .i64 x.f1))
    replace BKg6 := Aside0.mk (blk_put BKg6.out 1 (.int .i64 x.f1) rfl)
    replace HB := Aside0.mk (Wrote.new HB.out (g := g6) (j := 1) (by have := HZ1.out; have := HZ2.out; have := SZ3.out; omega) (.int .i64 x.f1))
    replace BKD := Aside0.mk (blk_far BKD.out (p := ⟨g6, 2, none⟩) (by show _ ≠ _; have := HZ1.out; have := HZ2.out; have := SZ3.out; omega) (.int .i64 x.f2))
    replace BKdr := Aside0.mk (blk_far BKdr.out (p := ⟨g6, 2, none⟩) (by show _ ≠ _; have := HZ1.out; have := HZ2.out; have := SZ3.out; omega) (.int .i64 x.f2))
    replace HHr := Aside0.mk (DiskO.kept HHr.out (kept_set _ ⟨g6, 2, none⟩ (.int .i64 x.f2)) (fun k hk e => by have h1 := (HH.out.2.2.2.2.2.2 k hk).2; have h3 : k = g6 := e; have := HZ1.out; have := HZ2.out; have := SZ3.out; omega))
    replace HFx := Aside0.mk (Kd.F_far HFx.out (p := ⟨g6, 2, none⟩) (fun k hk e => by have h1 := HLB.out k hk; have h4 := HW0.out.size; have h3 : k = g6 := e; have := HZ1.out; have := HZ2.out; have := SZ3.out; omega) (.int .i64 x.f2))
    replace BKg6 := Aside0.mk (blk_put BKg6.out 2 (.int .i64 x.f2) rfl)
    replace HB := Aside0.mk (Wrote.new HB.out (g := g6) (j := 2) (by have := HZ1.out; have := HZ2.out; have := SZ3.out; omega) (.int .i64 x.f2))
    replace BKD := Aside0.mk (blk_far BKD.out (p := ⟨g6, 3, none⟩) (by show _ ≠ _; have := HZ1.out; have := HZ2.out; have := SZ3.out; omega) (.slice A3 x.f3.length c3))
    replace BKdr := Aside0.mk (blk_far BKdr.out (p := ⟨g6, 3, none⟩) (by show _ ≠ _; have := HZ1.out; have := HZ2.out; have := SZ3.out; omega) (.slice A3 x.f3.length c3))
    replace HHr := Aside0.mk (DiskO.kept HHr.out (kept_set _ ⟨g6, 3, none⟩ (.slice A3 x.f3.length c3)) (fun k hk e => by have h1 := (HH.out.2.2.2.2.2.2 k hk).2; have h3 : k = g6 := e; have := HZ1.out; have := HZ2.out; have := SZ3.out; omega))
    replace HFx := Aside0.mk (Kd.F_far HFx.out (p := ⟨g6, 3, none⟩) (fun k hk e => by have h1 := HLB.out k hk; have h4 := HW0.out.size; have h3 : k = g6 := e; have := HZ1.out; have := HZ2.out; have := SZ3.out; omega) (.slice A3 x.f3.length c3))
    replace BKg6 := Aside0.mk (blk_put BKg6.out 3 (.slice A3 x.f3.length c3) rfl)
    replace HB := Aside0.mk (Wrote.new HB.out (g := g6) (j := 3) (by have := HZ1.out; have := HZ2.out; have := SZ3.out; omega) (.slice A3 x.f3.length c3))
    have SZ4 := Aside0.mk (show w3.heap.size ≤ ((((w3.setCell ⟨g6, 0, none⟩ (.int .i64 x.f0)).setCell ⟨g6, 1, none⟩ (.int .i64 x.f1)).setCell ⟨g6, 2, none⟩ (.int .i64 x.f2)).setCell ⟨g6, 3, none⟩ (.slice A3 x.f3.length c3)).heap.size from by simp [World.setCell])
    generalize ((((w3.setCell ⟨g6, 0, none⟩ (.int .i64 x.f0)).setCell ⟨g6, 1, none⟩ (.int .i64 x.f1)).setCell ⟨g6, 2, none⟩ (.int .i64 x.f2)).setCell ⟨g6, 3, none⟩ (.slice A3 x.f3.length c3)) = w4 at HB BKD BKdr HHr HFx BKg6 SZ4 ⊢
    obtain ⟨hcD_0, hcD_1, hcD_2, hcD_3, hfD_0, hfD_1, hfD_2, hfD_3⟩ := cs4 BKD.out
    obtain ⟨-, -, -, -, hcdr_4, -, -, -, -, -, -, hfdr_4, -, -⟩ := cs7 BKdr.out
    obtain ⟨hcg6_0, hcg6_1, hcg6_2, hcg6_3, hfg6_0, hfg6_1, hfg6_2, hfg6_3⟩ := cs4 BKg6.out
    (try clear hcD_0 hfD_0)
    (try clear hcD_1 hfD_1)
    (try clear hcD_2 hfD_2)
    (try clear hcD_3 hfD_3)
    (try clear hcdr_4 hfdr_4)
    (try clear hcg6_0 hfg6_0)
    (try clear hcg6_1 hfg6_1)
    (try clear hcg6_2 hfg6_2)
    (try clear hcg6_3 hfg6_3)
    have hs : Below w4.heap.size w4 (World.drew w4) := below_drew1 (Below.refl _ _)
    have SZ5 := Aside0.mk (show w4.heap.size ≤ (World.drew w4).heap.size from hs.size)
    replace BKD := Aside0.mk (blk_below BKD.out hs)
    replace BKdr := Aside0.mk (blk_below BKdr.out hs)
    replace HHr := Aside0.mk (DiskO.below HHr.out hs)
    replace HFx := Aside0.mk (Kd.F_below HFx.out hs)
    replace BKg6 := Aside0.mk (blk_below BKg6.out hs)
    replace HB := Aside0.mk (Wrote.below HB.out hs)
    clear hs
    refine start_ (n := 12) (S := fun w' => w'.cell? ⟨D, 0, none⟩ = some (.pointer (some ⟨dr, 0, none⟩)) ∧ w'.cell? ⟨D, 1, none⟩ = some (.bool false) ∧ w'.cell? ⟨D, 2, none⟩ = some (.int .i64 cu) ∧ w'.cell? ⟨D, 3, none⟩ = some (.int .i64 wn) ∧ w'.cell? ⟨dr, 4, none⟩ = some (.int .i64 sz) ∧ w'.cell? ⟨g6, 0, none⟩ = some (.int .i64 x.f0) ∧ w'.cell? ⟨g6, 1, none⟩ = some (.int .i64 x.f1) ∧ w'.cell? ⟨g6, 2, none⟩ = some (.int .i64 x.f2) ∧ w'.cell? ⟨g6, 3, none⟩ = some (.slice A3 x.f3.length c3)) (ds := []) #[O,O,O,O,O,O,O,O,O,O,O,O] (by kernel_rfl) rfl rfl ⟨(blk_cell BKD.out 0).trans rfl, (blk_cell BKD.out 1).trans rfl, (blk_cell BKD.out 2).trans rfl, (blk_cell BKD.out 3).trans rfl, (blk_cell BKdr.out 4).trans rfl, (blk_cell BKg6.out 0).trans rfl, (blk_cell BKg6.out 1).trans rfl, (blk_cell BKg6.out 2).trans rfl, (blk_cell BKg6.out 3).trans rfl⟩ (fun hHeld => ?_)
    generalize World.drew w4 = w5 at HB BKD BKdr HHr HFx BKg6 SZ5 hHeld ⊢
    refine pv 0 22 ?_ #[X,O,O,O,O,O,O,O,O,O,O,O] rfl rfl (by kernel_rfl) (fun _ _ _ h => h) ⟨by rfl, ?_⟩ ?_ ?_ ?_; rotate_left; (intro w'; go_simp; with_reducible rfl); rotate_left; (simp only [sP]; rfl)
    refine pv 1 23 ?_ #[X,X,O,O,O,O,O,O,O,O,O,O] rfl rfl (by kernel_rfl) (fun _ _ _ h => h) ⟨by rfl, ?_⟩ ?_ ?_ ?_; rotate_left; (intro w'; go_simp; with_reducible rfl); rotate_left; (simp only [sP]; rfl)
    refine pv 2 24 ?_ #[X,X,X,O,O,O,O,O,O,O,O,O] rfl rfl (by kernel_rfl) (fun _ _ _ h => h) ⟨by rfl, ?_⟩ ?_ ?_ ?_; rotate_left; (intro w'; go_simp; with_reducible rfl); rotate_left; (simp only [sP]; rfl)
    refine pv 4 26 ?_ #[X,X,X,O,X,O,O,O,O,O,O,O] rfl rfl (by kernel_rfl) (fun _ _ _ h => h) ⟨by rfl, ?_⟩ ?_ ?_ ?_; rotate_left; (intro w'; go_simp; with_reducible rfl); rotate_left; (simp only [sP]; rfl)
    refine pv 6 28 ?_ #[X,X,X,O,X,O,X,O,O,O,O,O] rfl rfl (by kernel_rfl) (fun _ _ _ h => h) ⟨by rfl, ?_⟩ ?_ ?_ ?_; rotate_left; (intro w'; go_simp; with_reducible rfl); rotate_left; (simp only [sP]; rfl)
    refine pv 8 30 ?_ #[X,X,X,O,X,O,X,O,X,O,O,O] rfl rfl (by kernel_rfl) (fun _ _ _ h => h) ⟨by rfl, ?_⟩ ?_ ?_ ?_; rotate_left; (intro w'; go_simp; with_reducible rfl); rotate_left; (simp only [sP]; rfl)
    refine tv 3 25 ?_ #[X,X,X,X,X,O,X,O,X,O,O,O] rfl rfl (by kernel_rfl) (fun _ _ _ h => h) ⟨by rfl, ?_⟩ hHeld ?_ ?_ ?_; rotate_left; (rintro w' ⟨s0, s1, s2, s3, s4, s5, s6, s7, s8⟩; go_simp; with_reducible rfl); rotate_left; (simp only [sP]; rfl)
    refine tv 5 27 ?_ #[X,X,X,X,X,X,X,O,X,O,O,O] rfl rfl (by kernel_rfl) (fun _ _ _ h => h) ⟨by rfl, ?_⟩ hHeld ?_ ?_ ?_; rotate_left; (rintro w' ⟨s0, s1, s2, s3, s4, s5, s6, s7, s8⟩; go_simp; with_reducible rfl); rotate_left; (simp only [sP]; rfl)
    refine tv 7 29 ?_ #[X,X,X,X,X,X,X,X,X,O,O,O] rfl rfl (by kernel_rfl) (fun _ _ _ h => h) ⟨by rfl, ?_⟩ hHeld ?_ ?_ ?_; rotate_left; (rintro w' ⟨s0, s1, s2, s3, s4, s5, s6, s7, s8⟩; go_simp; with_reducible rfl); rotate_left; (simp only [sP]; rfl)
    refine tv 9 31 ?_ #[X,X,X,X,X,X,X,X,X,X,O,O] rfl rfl (by kernel_rfl) (fun _ _ _ h => h) ⟨by rfl, ?_⟩ hHeld ?_ ?_ ?_; rotate_left; (rintro w' ⟨s0, s1, s2, s3, s4, s5, s6, s7, s8⟩; go_simp; with_reducible rfl); rotate_left; (simp only [sP]; rfl)
    refine one_ (i := 10) (N := some 32) #[X,X,X,X,X,X,X,X,X,X,X,O] rfl rfl (by kernel_rfl) (by decide) (fun K hK => ?_)
    refine goes_ Try.func46 (by kernel_rfl) rfl #[.pointer (some ⟨dr, 0, none⟩), .int .i64 x.f0, .int .i64 x.f1, .int .i64 x.f2] (by rfl) rfl rfl (by simp only [List.map_toArray, List.map_cons, List.map_nil]; rfl) ?_
    with_reducible refine (at_yes dr a b c d sz As Ag n cs m cg x.f0 x.f1 x.f2 _ (sB BKdr.out) HM.out HDD.out).mono ?_
    rintro e w6 ⟨rfl, hd⟩
    refine ⟨_, rfl, ?_⟩
    have hb := hd.below
    have hs : Below w5.heap.size w5 w6 := below_step Lt8.b hb
    skip
    have SZ6 := Aside0.mk (show w5.heap.size ≤ w6.heap.size from hs.size)
    replace BKD := Aside0.mk (blk_below BKD.out hs)
    replace BKdr := Aside0.mk (blk_below BKdr.out hs)
    replace HHr := Aside0.mk (DiskO.below HHr.out hs)
    replace HFx := Aside0.mk (Kd.F_below HFx.out hs)
    replace BKg6 := Aside0.mk (blk_below BKg6.out hs)
    replace HB := Aside0.mk (Wrote.below HB.out hs)
    clear hs hb
    (try clear hl)
    refine hK.out _ _ ⟨(blk_cell BKD.out 0).trans rfl, (blk_cell BKD.out 1).trans rfl, (blk_cell BKD.out 2).trans rfl, (blk_cell BKD.out 3).trans rfl, (blk_cell BKdr.out 4).trans rfl, (blk_cell BKg6.out 0).trans rfl, (blk_cell BKg6.out 1).trans rfl, (blk_cell BKg6.out 2).trans rfl, (blk_cell BKg6.out 3).trans rfl⟩ (fun hHeld => ?_)
    clear hK K
    refine norm_ (a' := ?_) ?_ ?_
    rotate_left
    ·
     show Act.put _ (some 32) _ = _
     simp only [sP]
     rfl
    refine pv 11 7 ?_ #[X,X,X,X,X,X,X,X,X,X,X,X] rfl rfl (by kernel_rfl) (fun _ _ _ h => h) ⟨by rfl, ?_⟩ ?_ ?_ ?_; rotate_left; (intro w'; go_simp; with_reducible rfl); rotate_left; (simp only [sP]; rfl)
    refine done_ (by kernel_rfl) ?_
    obtain ⟨hcD_0, hcD_1, hcD_2, hcD_3, hfD_0, hfD_1, hfD_2, hfD_3⟩ := cs4 BKD.out
    obtain ⟨-, -, -, -, hcdr_4, -, -, -, -, -, -, hfdr_4, -, -⟩ := cs7 BKdr.out
    obtain ⟨hcg6_0, hcg6_1, hcg6_2, hcg6_3, hfg6_0, hfg6_1, hfg6_2, hfg6_3⟩ := cs4 BKg6.out
    go_wp2_with (fail)
    (try clear hcD_0 hfD_0)
    (try clear hcD_1 hfD_1)
    (try clear hcD_2 hfD_2)
    (try clear hcD_3 hfD_3)
    (try clear hcdr_4 hfdr_4)
    (try clear hcg6_0 hfg6_0)
    (try clear hcg6_1 hfg6_1)
    (try clear hcg6_2 hfg6_2)
    (try clear hcg6_3 hfg6_3)
    have hs : Below w6.heap.size w6 (World.drew w6) := below_drew1 (Below.refl _ _)
    have SZ7 := Aside0.mk (show w6.heap.size ≤ (World.drew w6).heap.size from hs.size)
    replace BKD := Aside0.mk (blk_below BKD.out hs)
    replace BKdr := Aside0.mk (blk_below BKdr.out hs)
    replace HHr := Aside0.mk (DiskO.below HHr.out hs)
    replace HFx := Aside0.mk (Kd.F_below HFx.out hs)
    replace BKg6 := Aside0.mk (blk_below BKg6.out hs)
    replace HB := Aside0.mk (Wrote.below HB.out hs)
    clear hs
    refine start_ (n := 15) (S := fun w' => w'.cell? ⟨D, 0, none⟩ = some (.pointer (some ⟨dr, 0, none⟩)) ∧ w'.cell? ⟨D, 1, none⟩ = some (.bool false) ∧ w'.cell? ⟨D, 2, none⟩ = some (.int .i64 cu) ∧ w'.cell? ⟨D, 3, none⟩ = some (.int .i64 wn) ∧ w'.cell? ⟨dr, 4, none⟩ = some (.int .i64 sz) ∧ w'.cell? ⟨g6, 0, none⟩ = some (.int .i64 x.f0) ∧ w'.cell? ⟨g6, 1, none⟩ = some (.int .i64 x.f1) ∧ w'.cell? ⟨g6, 2, none⟩ = some (.int .i64 x.f2) ∧ w'.cell? ⟨g6, 3, none⟩ = some (.slice A3 x.f3.length c3)) (ds := []) #[O,O,O,O,O,O,O,O,O,O,O,O,O,O,O] (by kernel_rfl) rfl rfl ⟨(blk_cell BKD.out 0).trans rfl, (blk_cell BKD.out 1).trans rfl, (blk_cell BKD.out 2).trans rfl, (blk_cell BKD.out 3).trans rfl, (blk_cell BKdr.out 4).trans rfl, (blk_cell BKg6.out 0).trans rfl, (blk_cell BKg6.out 1).trans rfl, (blk_cell BKg6.out 2).trans rfl, (blk_cell BKg6.out 3).trans rfl⟩ (fun hHeld => ?_)
    generalize World.drew w6 = w7 at HB BKD BKdr HHr HFx BKg6 SZ7 hHeld ⊢
    refine pv 0 33 ?_ #[X,O,O,O,O,O,O,O,O,O,O,O,O,O,O] rfl rfl (by kernel_rfl) (fun _ _ _ h => h) ⟨by rfl, ?_⟩ ?_ ?_ ?_; rotate_left; (intro w'; go_simp; with_reducible rfl); rotate_left; (simp only [sP]; rfl)
    refine pv 1 34 ?_ #[X,X,O,O,O,O,O,O,O,O,O,O,O,O,O] rfl rfl (by kernel_rfl) (fun _ _ _ h => h) ⟨by rfl, ?_⟩ ?_ ?_ ?_; rotate_left; (intro w'; go_simp; with_reducible rfl); rotate_left; (simp only [sP]; rfl)
    refine pv 2 35 ?_ #[X,X,X,O,O,O,O,O,O,O,O,O,O,O,O] rfl rfl (by kernel_rfl) (fun _ _ _ h => h) ⟨by rfl, ?_⟩ ?_ ?_ ?_; rotate_left; (intro w'; go_simp; with_reducible rfl); rotate_left; (simp only [sP]; rfl)
    refine pure_ (i := 3) (N := some 36) (v := undef) (a' := ?_) #[X,X,X,X,O,O,O,O,O,O,O,O,O,O,O] rfl rfl (by kernel_rfl) (fun _ _ _ h => h) (Or.inr ⟨by rfl, rfl⟩) ?_ ?_
    rotate_left
    ·
     simp only [sP]
     rfl
    refine pure_ (i := 4) (N := some 37) (v := undef) (a' := ?_) #[X,X,X,X,X,O,O,O,O,O,O,O,O,O,O] rfl rfl (by kernel_rfl) (fun _ _ _ h => h) (Or.inr ⟨by rfl, rfl⟩) ?_ ?_
    rotate_left
    ·
     simp only [sP]
     rfl
    refine pure_ (i := 5) (N := some 38) (v := undef) (a' := ?_) #[X,X,X,X,X,X,O,O,O,O,O,O,O,O,O] rfl rfl (by kernel_rfl) (fun _ _ _ h => h) (Or.inr ⟨by rfl, rfl⟩) ?_ ?_
    rotate_left
    ·
     simp only [sP]
     rfl
    refine pure_ (i := 6) (N := some 39) (v := undef) (a' := ?_) #[X,X,X,X,X,X,X,O,O,O,O,O,O,O,O] rfl rfl (by kernel_rfl) (fun _ _ _ h => h) (Or.inr ⟨by rfl, rfl⟩) ?_ ?_
    rotate_left
    ·
     simp only [sP]
     rfl
    refine pure_ (i := 7) (N := some 40) (v := undef) (a' := ?_) #[X,X,X,X,X,X,X,X,O,O,O,O,O,O,O] rfl rfl (by kernel_rfl) (fun _ _ _ h => h) (Or.inr ⟨by rfl, rfl⟩) ?_ ?_
    rotate_left
    ·
     simp only [sP]
     rfl
    refine pure_ (i := 8) (N := some 41) (v := undef) (a' := ?_) #[X,X,X,X,X,X,X,X,X,O,O,O,O,O,O] rfl rfl (by kernel_rfl) (fun _ _ _ h => h) (Or.inr ⟨by rfl, rfl⟩) ?_ ?_
    rotate_left
    ·
     simp only [sP]
     rfl
    refine pure_ (i := 9) (N := some 42) (v := undef) (a' := ?_) #[X,X,X,X,X,X,X,X,X,X,O,O,O,O,O] rfl rfl (by kernel_rfl) (fun _ _ _ h => h) (Or.inr ⟨by rfl, rfl⟩) ?_ ?_
    rotate_left
    ·
     simp only [sP]
     rfl
    refine pure_ (i := 10) (N := some 43) (v := undef) (a' := ?_) #[X,X,X,X,X,X,X,X,X,X,X,O,O,O,O] rfl rfl (by kernel_rfl) (fun _ _ _ h => h) (Or.inr ⟨by rfl, rfl⟩) ?_ ?_
    rotate_left
    ·
     simp only [sP]
     rfl
    refine pure_ (i := 11) (N := some 44) (v := undef) (a' := ?_) #[X,X,X,X,X,X,X,X,X,X,X,X,O,O,O] rfl rfl (by kernel_rfl) (fun _ _ _ h => h) (Or.inr ⟨by rfl, rfl⟩) ?_ ?_
    rotate_left
    ·
     simp only [sP]
     rfl
    refine pure_ (i := 12) (N := some 45) (v := undef) (a' := ?_) #[X,X,X,X,X,X,X,X,X,X,X,X,X,O,O] rfl rfl (by kernel_rfl) (fun _ _ _ h => h) (Or.inr ⟨by rfl, rfl⟩) ?_ ?_
    rotate_left
    ·
     simp only [sP]
     rfl
    refine pure_ (i := 13) (N := some 46) (v := undef) (a' := ?_) #[X,X,X,X,X,X,X,X,X,X,X,X,X,X,O] rfl rfl (by kernel_rfl) (fun _ _ _ h => h) (Or.inr ⟨by rfl, rfl⟩) ?_ ?_
    rotate_left
    ·
     simp only [sP]
     rfl
    refine pv 14 47 ?_ #[X,X,X,X,X,X,X,X,X,X,X,X,X,X,X] rfl rfl (by kernel_rfl) (fun _ _ _ h => h) ⟨by rfl, ?_⟩ ?_ ?_ ?_; rotate_left; (intro w'; go_simp; with_reducible rfl); rotate_left; (simp only [sP]; rfl)
    refine done_ (by kernel_rfl) ?_
    obtain ⟨hcD_0, hcD_1, hcD_2, hcD_3, hfD_0, hfD_1, hfD_2, hfD_3⟩ := cs4 BKD.out
    obtain ⟨-, -, -, -, hcdr_4, -, -, -, -, -, -, hfdr_4, -, -⟩ := cs7 BKdr.out
    obtain ⟨hcg6_0, hcg6_1, hcg6_2, hcg6_3, hfg6_0, hfg6_1, hfg6_2, hfg6_3⟩ := cs4 BKg6.out
    go_wp2_with (fail)
    have hR : putsL m d sz l ⟨slots, off, cut, wt⟩ = (⟨sl, false, cu, wn⟩, 80) := by
     rw [← HP.out.1, HDR.out]
     have h1 : put1 m d sz x ⟨sl, false, cu, wn⟩ = (⟨sl, false, cu, wn⟩, 80) := by
      unfold put1
      rw [if_neg (by simp), if_pos (.inl C2.out)]
     rw [putsL_stop (by rw [h1]; show (80 : Int) ≠ 0; decide), h1]
    go_ret
    rw [hR]
    exact ⟨rfl, HHr.out.gr HW0.out.1 (fun k hk => hk.2) HH0.out.base_, HW0.out.thenG HB.out⟩
   have d1 : decide (atOf m d x.f0 x.f1 x.f2 < 0) = false := decide_eq_false c2
   have C2 := Aside0.mk c2
   clear c2
   by_cases c3 : (x.f3.length : Int) = sz
   rotate_left
   ·
    have d2 : ((x.f3.length : Int) == sz) = false := beq_false_of_ne c3
    have d3 : decide ((x.f3.length : Int) = sz) = false := decide_eq_false c3
    have C3 := Aside0.mk c3
    clear c3
    obtain ⟨hcD_0, hcD_1, hcD_2, hcD_3, hfD_0, hfD_1, hfD_2, hfD_3⟩ := cs4 BKD.out
    obtain ⟨-, -, -, -, hcdr_4, -, -, -, -, -, -, hfdr_4, -, -⟩ := cs7 BKdr.out
    have xHc0 := Hc0.out
    have xHc1 := Hc1.out
    have xHc2 := Hc2.out
    have xHc3 := Hc3.out
    have tok3 : True := trivial
    go_wp2_with (first | (have _ := tok3; (with_reducible refine gate_dst (N := 6) rfl ?_); refine box_event rfl (N := 6) rfl (cs := #[.int .i64 0, .int .i64 0, .int .i64 0, .slice none 0 0]) (t := 51) (by go_simp; try rfl) ?_; intro g6 hg w8 hbox hb; have hs : Below wr.heap.size wr w8 := below_step Lt8.b hb; have SZ8 := Aside0.mk (show wr.heap.size ≤ g6 ∧ g6 < w8.heap.size from ⟨by rw [hg]; exact (below_size Lt8.b), blk_lt hbox⟩); (try clear hcD_0 hfD_0); (try clear hcD_1 hfD_1); (try clear hcD_2 hfD_2); (try clear hcD_3 hfD_3); (try clear hcdr_4 hfdr_4); (try clear xHc0); (try clear xHc1); (try clear xHc2); (try clear xHc3); replace BKD := Aside0.mk (blk_below BKD.out hs); replace BKdr := Aside0.mk (blk_below BKdr.out hs); replace Hc0 := Aside0.mk (pw_cell_below hs Hc0.out); replace Hc1 := Aside0.mk (pw_cell_below hs Hc1.out); replace Hc2 := Aside0.mk (pw_cell_below hs Hc2.out); replace Hc3 := Aside0.mk (pw_cell_below hs Hc3.out); replace HHr := Aside0.mk (DiskO.below HHr.out hs); replace HFx := Aside0.mk (Kd.F_below HFx.out hs); replace HB := Aside0.mk (Wrote.below HB.out hs); have hneD_g6 : D ≠ g6 := (by have := SZ8.out; have := HZ1.out; have := HZ2.out; omega); have hneg6_D : g6 ≠ D := hneD_g6.symm; have hnedr_g6 : dr ≠ g6 := (by have := SZ8.out; have := HZ1.out; have := HZ2.out; omega); have hneg6_dr : g6 ≠ dr := hnedr_g6.symm; have BKg6 := Aside0.mk hbox; clear hb hbox hg hs; obtain ⟨hcD_0, hcD_1, hcD_2, hcD_3, hfD_0, hfD_1, hfD_2, hfD_3⟩ := cs4 BKD.out; obtain ⟨-, -, -, -, hcdr_4, -, -, -, -, -, -, hfdr_4, -, -⟩ := cs7 BKdr.out; have xHc0 := Hc0.out; have xHc1 := Hc1.out; have xHc2 := Hc2.out; have xHc3 := Hc3.out; obtain ⟨hcg6_0, hcg6_1, hcg6_2, hcg6_3, hfg6_0, hfg6_1, hfg6_2, hfg6_3⟩ := cs4 BKg6.out; clear tok3))
    (try clear xHc0)
    (try clear xHc1)
    (try clear xHc2)
    (try clear xHc3)
    (try clear hcD_0 hfD_0)
    (try clear hcD_1 hfD_1)
    (try clear hcD_2 hfD_2)
    (try clear hcD_3 hfD_3)
    (try clear hcdr_4 hfdr_4)
    (try clear hcg6_0 hfg6_0)
    (try clear hcg6_1 hfg6_1)
    (try clear hcg6_2 hfg6_2)
    (try clear hcg6_3 hfg6_3)
    replace BKD := Aside0.mk (blk_far BKD.out (p := ⟨g6, 0, none⟩) (by show _ ≠ _; have := HZ1.out; have := HZ2.out; have := SZ8.out; omega) (.int .i64 x.f0))
    replace BKdr := Aside0.mk (blk_far BKdr.out (p := ⟨g6, 0, none⟩) (by show _ ≠ _; have := HZ1.out; have := HZ2.out; have := SZ8.out; omega) (.int .i64 x.f0))
    replace HHr := Aside0.mk (DiskO.kept HHr.out (kept_set _ ⟨g6, 0, none⟩ (.int .i64 x.f0)) (fun k hk e => by have h1 := (HH.out.2.2.2.2.2.2 k hk).2; have h3 : k = g6 := e; have := HZ1.out; have := HZ2.out; have := SZ8.out; omega))
    replace HFx := Aside0.mk (Kd.F_far HFx.out (p := ⟨g6, 0, none⟩) (fun k hk e => by have h1 := HLB.out k hk; have h4 := HW0.out.size; have h3 : k = g6 := e; have := HZ1.out; have := HZ2.out; have := SZ8.out; omega) (.int .i64 x.f0))
    replace BKg6 := Aside0.mk (blk_put BKg6.out 0 (.int .i64 x.f0) rfl)
    replace HB := Aside0.mk (Wrote.new HB.out (g := g6) (j := 0) (by have := HZ1.out; have := HZ2.out; have := SZ8.out; omega) (.int .i64 x.f0))
    replace BKD := Aside0.mk (blk_far BKD.out (p := ⟨g6, 1, none⟩) (by show _ ≠ _; have := HZ1.out; have := HZ2.out; have := SZ8.out; omega) (.int .i64 x.f1))
    replace BKdr := Aside0.mk (blk_far BKdr.out (p := ⟨g6, 1, none⟩) (by show _ ≠ _; have := HZ1.out; have := HZ2.out; have := SZ8.out; omega) (.int .i64 x.f1))
    replace HHr := Aside0.mk (DiskO.kept HHr.out (kept_set _ ⟨g6, 1, none⟩ (.int .i64 x.f1)) (fun k hk e => by have h1 := (HH.out.2.2.2.2.2.2 k hk).2; have h3 : k = g6 := e; have := HZ1.out; have := HZ2.out; have := SZ8.out; omega))
    replace HFx := Aside0.mk (Kd.F_far HFx.out (p := ⟨g6, 1, none⟩) (fun k hk e => by have h1 := HLB.out k hk; have h4 := HW0.out.size; have h3 : k = g6 := e; have := HZ1.out; have := HZ2.out; have := SZ8.out; omega) (.int .i64 x.f1))
    replace BKg6 := Aside0.mk (blk_put BKg6.out 1 (.int .i64 x.f1) rfl)
    replace HB := Aside0.mk (Wrote.new HB.out (g := g6) (j := 1) (by have := HZ1.out; have := HZ2.out; have := SZ8.out; omega) (.int .i64 x.f1))
    replace BKD := Aside0.mk (blk_far BKD.out (p := ⟨g6, 2, none⟩) (by show _ ≠ _; have := HZ1.out; have := HZ2.out; have := SZ8.out; omega) (.int .i64 x.f2))
    replace BKdr := Aside0.mk (blk_far BKdr.out (p := ⟨g6, 2, none⟩) (by show _ ≠ _; have := HZ1.out; have := HZ2.out; have := SZ8.out; omega) (.int .i64 x.f2))
    replace HHr := Aside0.mk (DiskO.kept HHr.out (kept_set _ ⟨g6, 2, none⟩ (.int .i64 x.f2)) (fun k hk e => by have h1 := (HH.out.2.2.2.2.2.2 k hk).2; have h3 : k = g6 := e; have := HZ1.out; have := HZ2.out; have := SZ8.out; omega))
    replace HFx := Aside0.mk (Kd.F_far HFx.out (p := ⟨g6, 2, none⟩) (fun k hk e => by have h1 := HLB.out k hk; have h4 := HW0.out.size; have h3 : k = g6 := e; have := HZ1.out; have := HZ2.out; have := SZ8.out; omega) (.int .i64 x.f2))
    replace BKg6 := Aside0.mk (blk_put BKg6.out 2 (.int .i64 x.f2) rfl)
    replace HB := Aside0.mk (Wrote.new HB.out (g := g6) (j := 2) (by have := HZ1.out; have := HZ2.out; have := SZ8.out; omega) (.int .i64 x.f2))
    replace BKD := Aside0.mk (blk_far BKD.out (p := ⟨g6, 3, none⟩) (by show _ ≠ _; have := HZ1.out; have := HZ2.out; have := SZ8.out; omega) (.slice A3 x.f3.length c3))
    replace BKdr := Aside0.mk (blk_far BKdr.out (p := ⟨g6, 3, none⟩) (by show _ ≠ _; have := HZ1.out; have := HZ2.out; have := SZ8.out; omega) (.slice A3 x.f3.length c3))
    replace HHr := Aside0.mk (DiskO.kept HHr.out (kept_set _ ⟨g6, 3, none⟩ (.slice A3 x.f3.length c3)) (fun k hk e => by have h1 := (HH.out.2.2.2.2.2.2 k hk).2; have h3 : k = g6 := e; have := HZ1.out; have := HZ2.out; have := SZ8.out; omega))
    replace HFx := Aside0.mk (Kd.F_far HFx.out (p := ⟨g6, 3, none⟩) (fun k hk e => by have h1 := HLB.out k hk; have h4 := HW0.out.size; have h3 : k = g6 := e; have := HZ1.out; have := HZ2.out; have := SZ8.out; omega) (.slice A3 x.f3.length c3))
    replace BKg6 := Aside0.mk (blk_put BKg6.out 3 (.slice A3 x.f3.length c3) rfl)
    replace HB := Aside0.mk (Wrote.new HB.out (g := g6) (j := 3) (by have := HZ1.out; have := HZ2.out; have := SZ8.out; omega) (.slice A3 x.f3.length c3))
    have SZ9 := Aside0.mk (show w8.heap.size ≤ ((((w8.setCell ⟨g6, 0, none⟩ (.int .i64 x.f0)).setCell ⟨g6, 1, none⟩ (.int .i64 x.f1)).setCell ⟨g6, 2, none⟩ (.int .i64 x.f2)).setCell ⟨g6, 3, none⟩ (.slice A3 x.f3.length c3)).heap.size from by simp [World.setCell])
    generalize ((((w8.setCell ⟨g6, 0, none⟩ (.int .i64 x.f0)).setCell ⟨g6, 1, none⟩ (.int .i64 x.f1)).setCell ⟨g6, 2, none⟩ (.int .i64 x.f2)).setCell ⟨g6, 3, none⟩ (.slice A3 x.f3.length c3)) = w9 at HB BKD BKdr HHr HFx BKg6 SZ9 ⊢
    obtain ⟨hcD_0, hcD_1, hcD_2, hcD_3, hfD_0, hfD_1, hfD_2, hfD_3⟩ := cs4 BKD.out
    obtain ⟨-, -, -, -, hcdr_4, -, -, -, -, -, -, hfdr_4, -, -⟩ := cs7 BKdr.out
    obtain ⟨hcg6_0, hcg6_1, hcg6_2, hcg6_3, hfg6_0, hfg6_1, hfg6_2, hfg6_3⟩ := cs4 BKg6.out
    (try clear hcD_0 hfD_0)
    (try clear hcD_1 hfD_1)
    (try clear hcD_2 hfD_2)
    (try clear hcD_3 hfD_3)
    (try clear hcdr_4 hfdr_4)
    (try clear hcg6_0 hfg6_0)
    (try clear hcg6_1 hfg6_1)
    (try clear hcg6_2 hfg6_2)
    (try clear hcg6_3 hfg6_3)
    have hs : Below w9.heap.size w9 (World.drew w9) := below_drew1 (Below.refl _ _)
    have SZ10 := Aside0.mk (show w9.heap.size ≤ (World.drew w9).heap.size from hs.size)
    replace BKD := Aside0.mk (blk_below BKD.out hs)
    replace BKdr := Aside0.mk (blk_below BKdr.out hs)
    replace HHr := Aside0.mk (DiskO.below HHr.out hs)
    replace HFx := Aside0.mk (Kd.F_below HFx.out hs)
    replace BKg6 := Aside0.mk (blk_below BKg6.out hs)
    replace HB := Aside0.mk (Wrote.below HB.out hs)
    clear hs
    refine start_ (n := 12) (S := fun w' => w'.cell? ⟨D, 0, none⟩ = some (.pointer (some ⟨dr, 0, none⟩)) ∧ w'.cell? ⟨D, 1, none⟩ = some (.bool false) ∧ w'.cell? ⟨D, 2, none⟩ = some (.int .i64 cu) ∧ w'.cell? ⟨D, 3, none⟩ = some (.int .i64 wn) ∧ w'.cell? ⟨dr, 4, none⟩ = some (.int .i64 sz) ∧ w'.cell? ⟨g6, 0, none⟩ = some (.int .i64 x.f0) ∧ w'.cell? ⟨g6, 1, none⟩ = some (.int .i64 x.f1) ∧ w'.cell? ⟨g6, 2, none⟩ = some (.int .i64 x.f2) ∧ w'.cell? ⟨g6, 3, none⟩ = some (.slice A3 x.f3.length c3)) (ds := []) #[O,O,O,O,O,O,O,O,O,O,O,O] (by kernel_rfl) rfl rfl ⟨(blk_cell BKD.out 0).trans rfl, (blk_cell BKD.out 1).trans rfl, (blk_cell BKD.out 2).trans rfl, (blk_cell BKD.out 3).trans rfl, (blk_cell BKdr.out 4).trans rfl, (blk_cell BKg6.out 0).trans rfl, (blk_cell BKg6.out 1).trans rfl, (blk_cell BKg6.out 2).trans rfl, (blk_cell BKg6.out 3).trans rfl⟩ (fun hHeld => ?_)
    generalize World.drew w9 = w10 at HB BKD BKdr HHr HFx BKg6 SZ10 hHeld ⊢
    refine pv 0 22 ?_ #[X,O,O,O,O,O,O,O,O,O,O,O] rfl rfl (by kernel_rfl) (fun _ _ _ h => h) ⟨by rfl, ?_⟩ ?_ ?_ ?_; rotate_left; (intro w'; go_simp; with_reducible rfl); rotate_left; (simp only [sP]; rfl)
    refine pv 1 23 ?_ #[X,X,O,O,O,O,O,O,O,O,O,O] rfl rfl (by kernel_rfl) (fun _ _ _ h => h) ⟨by rfl, ?_⟩ ?_ ?_ ?_; rotate_left; (intro w'; go_simp; with_reducible rfl); rotate_left; (simp only [sP]; rfl)
    refine pv 2 24 ?_ #[X,X,X,O,O,O,O,O,O,O,O,O] rfl rfl (by kernel_rfl) (fun _ _ _ h => h) ⟨by rfl, ?_⟩ ?_ ?_ ?_; rotate_left; (intro w'; go_simp; with_reducible rfl); rotate_left; (simp only [sP]; rfl)
    refine pv 4 26 ?_ #[X,X,X,O,X,O,O,O,O,O,O,O] rfl rfl (by kernel_rfl) (fun _ _ _ h => h) ⟨by rfl, ?_⟩ ?_ ?_ ?_; rotate_left; (intro w'; go_simp; with_reducible rfl); rotate_left; (simp only [sP]; rfl)
    refine pv 6 28 ?_ #[X,X,X,O,X,O,X,O,O,O,O,O] rfl rfl (by kernel_rfl) (fun _ _ _ h => h) ⟨by rfl, ?_⟩ ?_ ?_ ?_; rotate_left; (intro w'; go_simp; with_reducible rfl); rotate_left; (simp only [sP]; rfl)
    refine pv 8 30 ?_ #[X,X,X,O,X,O,X,O,X,O,O,O] rfl rfl (by kernel_rfl) (fun _ _ _ h => h) ⟨by rfl, ?_⟩ ?_ ?_ ?_; rotate_left; (intro w'; go_simp; with_reducible rfl); rotate_left; (simp only [sP]; rfl)
    refine tv 3 25 ?_ #[X,X,X,X,X,O,X,O,X,O,O,O] rfl rfl (by kernel_rfl) (fun _ _ _ h => h) ⟨by rfl, ?_⟩ hHeld ?_ ?_ ?_; rotate_left; (rintro w' ⟨s0, s1, s2, s3, s4, s5, s6, s7, s8⟩; go_simp; with_reducible rfl); rotate_left; (simp only [sP]; rfl)
    refine tv 5 27 ?_ #[X,X,X,X,X,X,X,O,X,O,O,O] rfl rfl (by kernel_rfl) (fun _ _ _ h => h) ⟨by rfl, ?_⟩ hHeld ?_ ?_ ?_; rotate_left; (rintro w' ⟨s0, s1, s2, s3, s4, s5, s6, s7, s8⟩; go_simp; with_reducible rfl); rotate_left; (simp only [sP]; rfl)
    refine tv 7 29 ?_ #[X,X,X,X,X,X,X,X,X,O,O,O] rfl rfl (by kernel_rfl) (fun _ _ _ h => h) ⟨by rfl, ?_⟩ hHeld ?_ ?_ ?_; rotate_left; (rintro w' ⟨s0, s1, s2, s3, s4, s5, s6, s7, s8⟩; go_simp; with_reducible rfl); rotate_left; (simp only [sP]; rfl)
    refine tv 9 31 ?_ #[X,X,X,X,X,X,X,X,X,X,O,O] rfl rfl (by kernel_rfl) (fun _ _ _ h => h) ⟨by rfl, ?_⟩ hHeld ?_ ?_ ?_; rotate_left; (rintro w' ⟨s0, s1, s2, s3, s4, s5, s6, s7, s8⟩; go_simp; with_reducible rfl); rotate_left; (simp only [sP]; rfl)
    refine one_ (i := 10) (N := some 32) #[X,X,X,X,X,X,X,X,X,X,X,O] rfl rfl (by kernel_rfl) (by decide) (fun K hK => ?_)
    refine goes_ Try.func46 (by kernel_rfl) rfl #[.pointer (some ⟨dr, 0, none⟩), .int .i64 x.f0, .int .i64 x.f1, .int .i64 x.f2] (by rfl) rfl rfl (by simp only [List.map_toArray, List.map_cons, List.map_nil]; rfl) ?_
    with_reducible refine (at_yes dr a b c d sz As Ag n cs m cg x.f0 x.f1 x.f2 _ (sB BKdr.out) HM.out HDD.out).mono ?_
    rintro e w11 ⟨rfl, hd⟩
    refine ⟨_, rfl, ?_⟩
    have hb := hd.below
    have hs : Below w10.heap.size w10 w11 := below_step Lt8.b hb
    skip
    have SZ11 := Aside0.mk (show w10.heap.size ≤ w11.heap.size from hs.size)
    replace BKD := Aside0.mk (blk_below BKD.out hs)
    replace BKdr := Aside0.mk (blk_below BKdr.out hs)
    replace HHr := Aside0.mk (DiskO.below HHr.out hs)
    replace HFx := Aside0.mk (Kd.F_below HFx.out hs)
    replace BKg6 := Aside0.mk (blk_below BKg6.out hs)
    replace HB := Aside0.mk (Wrote.below HB.out hs)
    clear hs hb
    (try clear hl)
    refine hK.out _ _ ⟨(blk_cell BKD.out 0).trans rfl, (blk_cell BKD.out 1).trans rfl, (blk_cell BKD.out 2).trans rfl, (blk_cell BKD.out 3).trans rfl, (blk_cell BKdr.out 4).trans rfl, (blk_cell BKg6.out 0).trans rfl, (blk_cell BKg6.out 1).trans rfl, (blk_cell BKg6.out 2).trans rfl, (blk_cell BKg6.out 3).trans rfl⟩ (fun hHeld => ?_)
    clear hK K
    refine norm_ (a' := ?_) ?_ ?_
    rotate_left
    ·
     show Act.put _ (some 32) _ = _
     simp only [sP]
     rfl
    refine pv 11 7 ?_ #[X,X,X,X,X,X,X,X,X,X,X,X] rfl rfl (by kernel_rfl) (fun _ _ _ h => h) ⟨by rfl, ?_⟩ ?_ ?_ ?_; rotate_left; (intro w'; go_simp; with_reducible rfl); rotate_left; (simp only [sP]; rfl)
    refine done_ (by kernel_rfl) ?_
    obtain ⟨hcD_0, hcD_1, hcD_2, hcD_3, hfD_0, hfD_1, hfD_2, hfD_3⟩ := cs4 BKD.out
    obtain ⟨-, -, -, -, hcdr_4, -, -, -, -, -, -, hfdr_4, -, -⟩ := cs7 BKdr.out
    obtain ⟨hcg6_0, hcg6_1, hcg6_2, hcg6_3, hfg6_0, hfg6_1, hfg6_2, hfg6_3⟩ := cs4 BKg6.out
    go_wp2_with (fail)
    (try clear hcD_0 hfD_0)
    (try clear hcD_1 hfD_1)
    (try clear hcD_2 hfD_2)
    (try clear hcD_3 hfD_3)
    (try clear hcdr_4 hfdr_4)
    (try clear hcg6_0 hfg6_0)
    (try clear hcg6_1 hfg6_1)
    (try clear hcg6_2 hfg6_2)
    (try clear hcg6_3 hfg6_3)
    have hs : Below w11.heap.size w11 (World.drew w11) := below_drew1 (Below.refl _ _)
    have SZ12 := Aside0.mk (show w11.heap.size ≤ (World.drew w11).heap.size from hs.size)
    replace BKD := Aside0.mk (blk_below BKD.out hs)
    replace BKdr := Aside0.mk (blk_below BKdr.out hs)
    replace HHr := Aside0.mk (DiskO.below HHr.out hs)
    replace HFx := Aside0.mk (Kd.F_below HFx.out hs)
    replace BKg6 := Aside0.mk (blk_below BKg6.out hs)
    replace HB := Aside0.mk (Wrote.below HB.out hs)
    clear hs
    refine start_ (n := 15) (S := fun w' => w'.cell? ⟨D, 0, none⟩ = some (.pointer (some ⟨dr, 0, none⟩)) ∧ w'.cell? ⟨D, 1, none⟩ = some (.bool false) ∧ w'.cell? ⟨D, 2, none⟩ = some (.int .i64 cu) ∧ w'.cell? ⟨D, 3, none⟩ = some (.int .i64 wn) ∧ w'.cell? ⟨dr, 4, none⟩ = some (.int .i64 sz) ∧ w'.cell? ⟨g6, 0, none⟩ = some (.int .i64 x.f0) ∧ w'.cell? ⟨g6, 1, none⟩ = some (.int .i64 x.f1) ∧ w'.cell? ⟨g6, 2, none⟩ = some (.int .i64 x.f2) ∧ w'.cell? ⟨g6, 3, none⟩ = some (.slice A3 x.f3.length c3)) (ds := []) #[O,O,O,O,O,O,O,O,O,O,O,O,O,O,O] (by kernel_rfl) rfl rfl ⟨(blk_cell BKD.out 0).trans rfl, (blk_cell BKD.out 1).trans rfl, (blk_cell BKD.out 2).trans rfl, (blk_cell BKD.out 3).trans rfl, (blk_cell BKdr.out 4).trans rfl, (blk_cell BKg6.out 0).trans rfl, (blk_cell BKg6.out 1).trans rfl, (blk_cell BKg6.out 2).trans rfl, (blk_cell BKg6.out 3).trans rfl⟩ (fun hHeld => ?_)
    generalize World.drew w11 = w12 at HB BKD BKdr HHr HFx BKg6 SZ12 hHeld ⊢
    refine pv 0 33 ?_ #[X,O,O,O,O,O,O,O,O,O,O,O,O,O,O] rfl rfl (by kernel_rfl) (fun _ _ _ h => h) ⟨by rfl, ?_⟩ ?_ ?_ ?_; rotate_left; (intro w'; go_simp; with_reducible rfl); rotate_left; (simp only [sP]; rfl)
    refine pv 1 34 ?_ #[X,X,O,O,O,O,O,O,O,O,O,O,O,O,O] rfl rfl (by kernel_rfl) (fun _ _ _ h => h) ⟨by rfl, ?_⟩ ?_ ?_ ?_; rotate_left; (intro w'; go_simp; with_reducible rfl); rotate_left; (simp only [sP]; rfl)
    refine pv 2 35 ?_ #[X,X,X,O,O,O,O,O,O,O,O,O,O,O,O] rfl rfl (by kernel_rfl) (fun _ _ _ h => h) ⟨by rfl, ?_⟩ ?_ ?_ ?_; rotate_left; (intro w'; go_simp; with_reducible rfl); rotate_left; (simp only [sP]; rfl)
    refine pv 3 36 ?_ #[X,X,X,X,O,O,O,O,O,O,O,O,O,O,O] rfl rfl (by kernel_rfl) (fun _ _ _ h => h) ⟨by rfl, ?_⟩ ?_ ?_ ?_; rotate_left; (intro w'; go_simp; with_reducible rfl); rotate_left; (simp only [sP]; rfl)
    refine pv 6 39 ?_ #[X,X,X,X,O,O,X,O,O,O,O,O,O,O,O] rfl rfl (by kernel_rfl) (fun _ _ _ h => h) ⟨by rfl, ?_⟩ ?_ ?_ ?_; rotate_left; (intro w'; go_simp; with_reducible rfl); rotate_left; (simp only [sP]; rfl)
    refine pv 7 40 ?_ #[X,X,X,X,O,O,X,X,O,O,O,O,O,O,O] rfl rfl (by kernel_rfl) (fun _ _ _ h => h) ⟨by rfl, ?_⟩ ?_ ?_ ?_; rotate_left; (intro w'; go_simp; with_reducible rfl); rotate_left; (simp only [sP]; rfl)
    refine pv 8 41 ?_ #[X,X,X,X,O,O,X,X,X,O,O,O,O,O,O] rfl rfl (by kernel_rfl) (fun _ _ _ h => h) ⟨by rfl, ?_⟩ ?_ ?_ ?_; rotate_left; (intro w'; go_simp; with_reducible rfl); rotate_left; (simp only [sP]; rfl)
    refine tv 4 37 ?_ #[X,X,X,X,X,O,X,X,X,O,O,O,O,O,O] rfl rfl (by kernel_rfl) (fun _ _ _ h => h) ⟨by rfl, ?_⟩ hHeld ?_ ?_ ?_; rotate_left; (rintro w' ⟨s0, s1, s2, s3, s4, s5, s6, s7, s8⟩; go_simp; with_reducible rfl); rotate_left; (simp only [sP]; rfl)
    refine pv 5 38 ?_ #[X,X,X,X,X,X,X,X,X,O,O,O,O,O,O] rfl rfl (by kernel_rfl) (fun _ _ _ h => h) ⟨by rfl, ?_⟩ ?_ ?_ ?_; rotate_left; (intro w'; go_simp; with_reducible rfl); rotate_left; (simp only [sP]; rfl)
    refine tv 9 42 ?_ #[X,X,X,X,X,X,X,X,X,X,O,O,O,O,O] rfl rfl (by kernel_rfl) (fun _ _ _ h => h) ⟨by rfl, ?_⟩ hHeld ?_ ?_ ?_; rotate_left; (rintro w' ⟨s0, s1, s2, s3, s4, s5, s6, s7, s8⟩; go_simp; with_reducible rfl); rotate_left; (simp only [sP]; rfl)
    refine pv 10 43 ?_ #[X,X,X,X,X,X,X,X,X,X,X,O,O,O,O] rfl rfl (by kernel_rfl) (fun _ _ _ h => h) ⟨by rfl, ?_⟩ ?_ ?_ ?_; rotate_left; (intro w'; go_simp; with_reducible rfl); rotate_left; (simp only [sP]; rfl)
    refine pv 11 44 ?_ #[X,X,X,X,X,X,X,X,X,X,X,X,O,O,O] rfl rfl (by kernel_rfl) (fun _ _ _ h => h) ⟨by rfl, ?_⟩ ?_ ?_ ?_; rotate_left; (intro w'; go_simp; with_reducible rfl); rotate_left; (simp only [sP]; rfl)
    refine tv 12 45 ?_ #[X,X,X,X,X,X,X,X,X,X,X,X,X,O,O] rfl rfl (by kernel_rfl) (fun _ _ _ h => h) ⟨by rfl, ?_⟩ hHeld ?_ ?_ ?_; rotate_left; (rintro w' ⟨s0, s1, s2, s3, s4, s5, s6, s7, s8⟩; go_simp; with_reducible rfl); rotate_left; (simp only [sP]; rfl)
    refine pv 13 46 ?_ #[X,X,X,X,X,X,X,X,X,X,X,X,X,X,O] rfl rfl (by kernel_rfl) (fun _ _ _ h => h) ⟨by rfl, ?_⟩ ?_ ?_ ?_; rotate_left; (intro w'; go_simp; with_reducible rfl); rotate_left; (simp only [sP]; rfl)
    refine pv 14 47 ?_ #[X,X,X,X,X,X,X,X,X,X,X,X,X,X,X] rfl rfl (by kernel_rfl) (fun _ _ _ h => h) ⟨by rfl, ?_⟩ ?_ ?_ ?_; rotate_left; (intro w'; go_simp; with_reducible rfl); rotate_left; (simp only [sP]; rfl)
    refine done_ (by kernel_rfl) ?_
    obtain ⟨hcD_0, hcD_1, hcD_2, hcD_3, hfD_0, hfD_1, hfD_2, hfD_3⟩ := cs4 BKD.out
    obtain ⟨-, -, -, -, hcdr_4, -, -, -, -, -, -, hfdr_4, -, -⟩ := cs7 BKdr.out
    obtain ⟨hcg6_0, hcg6_1, hcg6_2, hcg6_3, hfg6_0, hfg6_1, hfg6_2, hfg6_3⟩ := cs4 BKg6.out
    go_wp2_with (fail)
    have hR : putsL m d sz l ⟨slots, off, cut, wt⟩ = (⟨sl, false, cu, wn⟩, 80) := by
     rw [← HP.out.1, HDR.out]
     have h1 : put1 m d sz x ⟨sl, false, cu, wn⟩ = (⟨sl, false, cu, wn⟩, 80) := by
      unfold put1
      rw [if_neg (by simp), if_pos (.inr C3.out)]
     rw [putsL_stop (by rw [h1]; show (80 : Int) ≠ 0; decide), h1]
    go_ret
    rw [hR]
    exact ⟨rfl, HHr.out.gr HW0.out.1 (fun k hk => hk.2) HH0.out.base_, HW0.out.thenG HB.out⟩
   have d2 : ((x.f3.length : Int) == sz) = true := beq_iff_eq.mpr c3
   have d3 : decide ((x.f3.length : Int) = sz) = true := decide_eq_true c3
   have C3 := Aside0.mk c3
   clear c3
   by_cases c4 : cu = 0
   ·
    subst c4
    obtain ⟨hcD_0, hcD_1, hcD_2, hcD_3, hfD_0, hfD_1, hfD_2, hfD_3⟩ := cs4 BKD.out
    obtain ⟨-, -, -, -, hcdr_4, -, -, -, -, -, -, hfdr_4, -, -⟩ := cs7 BKdr.out
    have xHc0 := Hc0.out
    have xHc1 := Hc1.out
    have xHc2 := Hc2.out
    have xHc3 := Hc3.out
    have tok4 : True := trivial
    go_wp2_with (first | (have _ := tok4; (with_reducible refine gate_dst (N := 6) rfl ?_); refine box_event rfl (N := 6) rfl (cs := #[.int .i64 0, .int .i64 0, .int .i64 0, .slice none 0 0]) (t := 51) (by go_simp; try rfl) ?_; intro g6 hg w13 hbox hb; have hs : Below wr.heap.size wr w13 := below_step Lt8.b hb; have SZ13 := Aside0.mk (show wr.heap.size ≤ g6 ∧ g6 < w13.heap.size from ⟨by rw [hg]; exact (below_size Lt8.b), blk_lt hbox⟩); (try clear hcD_0 hfD_0); (try clear hcD_1 hfD_1); (try clear hcD_2 hfD_2); (try clear hcD_3 hfD_3); (try clear hcdr_4 hfdr_4); (try clear xHc0); (try clear xHc1); (try clear xHc2); (try clear xHc3); replace BKD := Aside0.mk (blk_below BKD.out hs); replace BKdr := Aside0.mk (blk_below BKdr.out hs); replace Hc0 := Aside0.mk (pw_cell_below hs Hc0.out); replace Hc1 := Aside0.mk (pw_cell_below hs Hc1.out); replace Hc2 := Aside0.mk (pw_cell_below hs Hc2.out); replace Hc3 := Aside0.mk (pw_cell_below hs Hc3.out); replace HHr := Aside0.mk (DiskO.below HHr.out hs); replace HFx := Aside0.mk (Kd.F_below HFx.out hs); replace HB := Aside0.mk (Wrote.below HB.out hs); have hneD_g6 : D ≠ g6 := (by have := SZ13.out; have := HZ1.out; have := HZ2.out; omega); have hneg6_D : g6 ≠ D := hneD_g6.symm; have hnedr_g6 : dr ≠ g6 := (by have := SZ13.out; have := HZ1.out; have := HZ2.out; omega); have hneg6_dr : g6 ≠ dr := hnedr_g6.symm; have BKg6 := Aside0.mk hbox; clear hb hbox hg hs; obtain ⟨hcD_0, hcD_1, hcD_2, hcD_3, hfD_0, hfD_1, hfD_2, hfD_3⟩ := cs4 BKD.out; obtain ⟨-, -, -, -, hcdr_4, -, -, -, -, -, -, hfdr_4, -, -⟩ := cs7 BKdr.out; have xHc0 := Hc0.out; have xHc1 := Hc1.out; have xHc2 := Hc2.out; have xHc3 := Hc3.out; obtain ⟨hcg6_0, hcg6_1, hcg6_2, hcg6_3, hfg6_0, hfg6_1, hfg6_2, hfg6_3⟩ := cs4 BKg6.out; clear tok4))
    (try clear xHc0)
    (try clear xHc1)
    (try clear xHc2)
    (try clear xHc3)
    (try clear hcD_0 hfD_0)
    (try clear hcD_1 hfD_1)
    (try clear hcD_2 hfD_2)
    (try clear hcD_3 hfD_3)
    (try clear hcdr_4 hfdr_4)
    (try clear hcg6_0 hfg6_0)
    (try clear hcg6_1 hfg6_1)
    (try clear hcg6_2 hfg6_2)
    (try clear hcg6_3 hfg6_3)
    replace BKD := Aside0.mk (blk_far BKD.out (p := ⟨g6, 0, none⟩) (by show _ ≠ _; have := HZ1.out; have := HZ2.out; have := SZ13.out; omega) (.int .i64 x.f0))
    replace BKdr := Aside0.mk (blk_far BKdr.out (p := ⟨g6, 0, none⟩) (by show _ ≠ _; have := HZ1.out; have := HZ2.out; have := SZ13.out; omega) (.int .i64 x.f0))
    replace HHr := Aside0.mk (DiskO.kept HHr.out (kept_set _ ⟨g6, 0, none⟩ (.int .i64 x.f0)) (fun k hk e => by have h1 := (HH.out.2.2.2.2.2.2 k hk).2; have h3 : k = g6 := e; have := HZ1.out; have := HZ2.out; have := SZ13.out; omega))
    replace HFx := Aside0.mk (Kd.F_far HFx.out (p := ⟨g6, 0, none⟩) (fun k hk e => by have h1 := HLB.out k hk; have h4 := HW0.out.size; have h3 : k = g6 := e; have := HZ1.out; have := HZ2.out; have := SZ13.out; omega) (.int .i64 x.f0))
    replace BKg6 := Aside0.mk (blk_put BKg6.out 0 (.int .i64 x.f0) rfl)
    replace HB := Aside0.mk (Wrote.new HB.out (g := g6) (j := 0) (by have := HZ1.out; have := HZ2.out; have := SZ13.out; omega) (.int .i64 x.f0))
    replace BKD := Aside0.mk (blk_far BKD.out (p := ⟨g6, 1, none⟩) (by show _ ≠ _; have := HZ1.out; have := HZ2.out; have := SZ13.out; omega) (.int .i64 x.f1))
    replace BKdr := Aside0.mk (blk_far BKdr.out (p := ⟨g6, 1, none⟩) (by show _ ≠ _; have := HZ1.out; have := HZ2.out; have := SZ13.out; omega) (.int .i64 x.f1))
    replace HHr := Aside0.mk (DiskO.kept HHr.out (kept_set _ ⟨g6, 1, none⟩ (.int .i64 x.f1)) (fun k hk e => by have h1 := (HH.out.2.2.2.2.2.2 k hk).2; have h3 : k = g6 := e; have := HZ1.out; have := HZ2.out; have := SZ13.out; omega))
    replace HFx := Aside0.mk (Kd.F_far HFx.out (p := ⟨g6, 1, none⟩) (fun k hk e => by have h1 := HLB.out k hk; have h4 := HW0.out.size; have h3 : k = g6 := e; have := HZ1.out; have := HZ2.out; have := SZ13.out; omega) (.int .i64 x.f1))
    replace BKg6 := Aside0.mk (blk_put BKg6.out 1 (.int .i64 x.f1) rfl)
    replace HB := Aside0.mk (Wrote.new HB.out (g := g6) (j := 1) (by have := HZ1.out; have := HZ2.out; have := SZ13.out; omega) (.int .i64 x.f1))
    replace BKD := Aside0.mk (blk_far BKD.out (p := ⟨g6, 2, none⟩) (by show _ ≠ _; have := HZ1.out; have := HZ2.out; have := SZ13.out; omega) (.int .i64 x.f2))
    replace BKdr := Aside0.mk (blk_far BKdr.out (p := ⟨g6, 2, none⟩) (by show _ ≠ _; have := HZ1.out; have := HZ2.out; have := SZ13.out; omega) (.int .i64 x.f2))
    replace HHr := Aside0.mk (DiskO.kept HHr.out (kept_set _ ⟨g6, 2, none⟩ (.int .i64 x.f2)) (fun k hk e => by have h1 := (HH.out.2.2.2.2.2.2 k hk).2; have h3 : k = g6 := e; have := HZ1.out; have := HZ2.out; have := SZ13.out; omega))
    replace HFx := Aside0.mk (Kd.F_far HFx.out (p := ⟨g6, 2, none⟩) (fun k hk e => by have h1 := HLB.out k hk; have h4 := HW0.out.size; have h3 : k = g6 := e; have := HZ1.out; have := HZ2.out; have := SZ13.out; omega) (.int .i64 x.f2))
    replace BKg6 := Aside0.mk (blk_put BKg6.out 2 (.int .i64 x.f2) rfl)
    replace HB := Aside0.mk (Wrote.new HB.out (g := g6) (j := 2) (by have := HZ1.out; have := HZ2.out; have := SZ13.out; omega) (.int .i64 x.f2))
    replace BKD := Aside0.mk (blk_far BKD.out (p := ⟨g6, 3, none⟩) (by show _ ≠ _; have := HZ1.out; have := HZ2.out; have := SZ13.out; omega) (.slice A3 x.f3.length c3))
    replace BKdr := Aside0.mk (blk_far BKdr.out (p := ⟨g6, 3, none⟩) (by show _ ≠ _; have := HZ1.out; have := HZ2.out; have := SZ13.out; omega) (.slice A3 x.f3.length c3))
    replace HHr := Aside0.mk (DiskO.kept HHr.out (kept_set _ ⟨g6, 3, none⟩ (.slice A3 x.f3.length c3)) (fun k hk e => by have h1 := (HH.out.2.2.2.2.2.2 k hk).2; have h3 : k = g6 := e; have := HZ1.out; have := HZ2.out; have := SZ13.out; omega))
    replace HFx := Aside0.mk (Kd.F_far HFx.out (p := ⟨g6, 3, none⟩) (fun k hk e => by have h1 := HLB.out k hk; have h4 := HW0.out.size; have h3 : k = g6 := e; have := HZ1.out; have := HZ2.out; have := SZ13.out; omega) (.slice A3 x.f3.length c3))
    replace BKg6 := Aside0.mk (blk_put BKg6.out 3 (.slice A3 x.f3.length c3) rfl)
    replace HB := Aside0.mk (Wrote.new HB.out (g := g6) (j := 3) (by have := HZ1.out; have := HZ2.out; have := SZ13.out; omega) (.slice A3 x.f3.length c3))
    have SZ14 := Aside0.mk (show w13.heap.size ≤ ((((w13.setCell ⟨g6, 0, none⟩ (.int .i64 x.f0)).setCell ⟨g6, 1, none⟩ (.int .i64 x.f1)).setCell ⟨g6, 2, none⟩ (.int .i64 x.f2)).setCell ⟨g6, 3, none⟩ (.slice A3 x.f3.length c3)).heap.size from by simp [World.setCell])
    generalize ((((w13.setCell ⟨g6, 0, none⟩ (.int .i64 x.f0)).setCell ⟨g6, 1, none⟩ (.int .i64 x.f1)).setCell ⟨g6, 2, none⟩ (.int .i64 x.f2)).setCell ⟨g6, 3, none⟩ (.slice A3 x.f3.length c3)) = w14 at HB BKD BKdr HHr HFx BKg6 SZ14 ⊢
    obtain ⟨hcD_0, hcD_1, hcD_2, hcD_3, hfD_0, hfD_1, hfD_2, hfD_3⟩ := cs4 BKD.out
    obtain ⟨-, -, -, -, hcdr_4, -, -, -, -, -, -, hfdr_4, -, -⟩ := cs7 BKdr.out
    obtain ⟨hcg6_0, hcg6_1, hcg6_2, hcg6_3, hfg6_0, hfg6_1, hfg6_2, hfg6_3⟩ := cs4 BKg6.out
    (try clear hcD_0 hfD_0)
    (try clear hcD_1 hfD_1)
    (try clear hcD_2 hfD_2)
    (try clear hcD_3 hfD_3)
    (try clear hcdr_4 hfdr_4)
    (try clear hcg6_0 hfg6_0)
    (try clear hcg6_1 hfg6_1)
    (try clear hcg6_2 hfg6_2)
    (try clear hcg6_3 hfg6_3)
    have hs : Below w14.heap.size w14 (World.drew w14) := below_drew1 (Below.refl _ _)
    have SZ15 := Aside0.mk (show w14.heap.size ≤ (World.drew w14).heap.size from hs.size)
    replace BKD := Aside0.mk (blk_below BKD.out hs)
    replace BKdr := Aside0.mk (blk_below BKdr.out hs)
    replace HHr := Aside0.mk (DiskO.below HHr.out hs)
    replace HFx := Aside0.mk (Kd.F_below HFx.out hs)
    replace BKg6 := Aside0.mk (blk_below BKg6.out hs)
    replace HB := Aside0.mk (Wrote.below HB.out hs)
    clear hs
    refine start_ (n := 12) (S := fun w' => w'.cell? ⟨D, 0, none⟩ = some (.pointer (some ⟨dr, 0, none⟩)) ∧ w'.cell? ⟨D, 1, none⟩ = some (.bool false) ∧ w'.cell? ⟨D, 2, none⟩ = some (.int .i64 0) ∧ w'.cell? ⟨D, 3, none⟩ = some (.int .i64 wn) ∧ w'.cell? ⟨dr, 4, none⟩ = some (.int .i64 sz) ∧ w'.cell? ⟨g6, 0, none⟩ = some (.int .i64 x.f0) ∧ w'.cell? ⟨g6, 1, none⟩ = some (.int .i64 x.f1) ∧ w'.cell? ⟨g6, 2, none⟩ = some (.int .i64 x.f2) ∧ w'.cell? ⟨g6, 3, none⟩ = some (.slice A3 x.f3.length c3)) (ds := []) #[O,O,O,O,O,O,O,O,O,O,O,O] (by kernel_rfl) rfl rfl ⟨(blk_cell BKD.out 0).trans rfl, (blk_cell BKD.out 1).trans rfl, (blk_cell BKD.out 2).trans rfl, (blk_cell BKD.out 3).trans rfl, (blk_cell BKdr.out 4).trans rfl, (blk_cell BKg6.out 0).trans rfl, (blk_cell BKg6.out 1).trans rfl, (blk_cell BKg6.out 2).trans rfl, (blk_cell BKg6.out 3).trans rfl⟩ (fun hHeld => ?_)
    generalize World.drew w14 = w15 at HB BKD BKdr HHr HFx BKg6 SZ15 hHeld ⊢
    refine pv 0 22 ?_ #[X,O,O,O,O,O,O,O,O,O,O,O] rfl rfl (by kernel_rfl) (fun _ _ _ h => h) ⟨by rfl, ?_⟩ ?_ ?_ ?_; rotate_left; (intro w'; go_simp; with_reducible rfl); rotate_left; (simp only [sP]; rfl)
    refine pv 1 23 ?_ #[X,X,O,O,O,O,O,O,O,O,O,O] rfl rfl (by kernel_rfl) (fun _ _ _ h => h) ⟨by rfl, ?_⟩ ?_ ?_ ?_; rotate_left; (intro w'; go_simp; with_reducible rfl); rotate_left; (simp only [sP]; rfl)
    refine pv 2 24 ?_ #[X,X,X,O,O,O,O,O,O,O,O,O] rfl rfl (by kernel_rfl) (fun _ _ _ h => h) ⟨by rfl, ?_⟩ ?_ ?_ ?_; rotate_left; (intro w'; go_simp; with_reducible rfl); rotate_left; (simp only [sP]; rfl)
    refine pv 4 26 ?_ #[X,X,X,O,X,O,O,O,O,O,O,O] rfl rfl (by kernel_rfl) (fun _ _ _ h => h) ⟨by rfl, ?_⟩ ?_ ?_ ?_; rotate_left; (intro w'; go_simp; with_reducible rfl); rotate_left; (simp only [sP]; rfl)
    refine pv 6 28 ?_ #[X,X,X,O,X,O,X,O,O,O,O,O] rfl rfl (by kernel_rfl) (fun _ _ _ h => h) ⟨by rfl, ?_⟩ ?_ ?_ ?_; rotate_left; (intro w'; go_simp; with_reducible rfl); rotate_left; (simp only [sP]; rfl)
    refine pv 8 30 ?_ #[X,X,X,O,X,O,X,O,X,O,O,O] rfl rfl (by kernel_rfl) (fun _ _ _ h => h) ⟨by rfl, ?_⟩ ?_ ?_ ?_; rotate_left; (intro w'; go_simp; with_reducible rfl); rotate_left; (simp only [sP]; rfl)
    refine tv 3 25 ?_ #[X,X,X,X,X,O,X,O,X,O,O,O] rfl rfl (by kernel_rfl) (fun _ _ _ h => h) ⟨by rfl, ?_⟩ hHeld ?_ ?_ ?_; rotate_left; (rintro w' ⟨s0, s1, s2, s3, s4, s5, s6, s7, s8⟩; go_simp; with_reducible rfl); rotate_left; (simp only [sP]; rfl)
    refine tv 5 27 ?_ #[X,X,X,X,X,X,X,O,X,O,O,O] rfl rfl (by kernel_rfl) (fun _ _ _ h => h) ⟨by rfl, ?_⟩ hHeld ?_ ?_ ?_; rotate_left; (rintro w' ⟨s0, s1, s2, s3, s4, s5, s6, s7, s8⟩; go_simp; with_reducible rfl); rotate_left; (simp only [sP]; rfl)
    refine tv 7 29 ?_ #[X,X,X,X,X,X,X,X,X,O,O,O] rfl rfl (by kernel_rfl) (fun _ _ _ h => h) ⟨by rfl, ?_⟩ hHeld ?_ ?_ ?_; rotate_left; (rintro w' ⟨s0, s1, s2, s3, s4, s5, s6, s7, s8⟩; go_simp; with_reducible rfl); rotate_left; (simp only [sP]; rfl)
    refine tv 9 31 ?_ #[X,X,X,X,X,X,X,X,X,X,O,O] rfl rfl (by kernel_rfl) (fun _ _ _ h => h) ⟨by rfl, ?_⟩ hHeld ?_ ?_ ?_; rotate_left; (rintro w' ⟨s0, s1, s2, s3, s4, s5, s6, s7, s8⟩; go_simp; with_reducible rfl); rotate_left; (simp only [sP]; rfl)
    refine one_ (i := 10) (N := some 32) #[X,X,X,X,X,X,X,X,X,X,X,O] rfl rfl (by kernel_rfl) (by decide) (fun K hK => ?_)
    refine goes_ Try.func46 (by kernel_rfl) rfl #[.pointer (some ⟨dr, 0, none⟩), .int .i64 x.f0, .int .i64 x.f1, .int .i64 x.f2] (by rfl) rfl rfl (by simp only [List.map_toArray, List.map_cons, List.map_nil]; rfl) ?_
    with_reducible refine (at_yes dr a b c d sz As Ag n cs m cg x.f0 x.f1 x.f2 _ (sB BKdr.out) HM.out HDD.out).mono ?_
    rintro e w16 ⟨rfl, hd⟩
    refine ⟨_, rfl, ?_⟩
    have hb := hd.below
    have hs : Below w15.heap.size w15 w16 := below_step Lt8.b hb
    skip
    have SZ16 := Aside0.mk (show w15.heap.size ≤ w16.heap.size from hs.size)
    replace BKD := Aside0.mk (blk_below BKD.out hs)
    replace BKdr := Aside0.mk (blk_below BKdr.out hs)
    replace HHr := Aside0.mk (DiskO.below HHr.out hs)
    replace HFx := Aside0.mk (Kd.F_below HFx.out hs)
    replace BKg6 := Aside0.mk (blk_below BKg6.out hs)
    replace HB := Aside0.mk (Wrote.below HB.out hs)
    clear hs hb
    (try clear hl)
    refine hK.out _ _ ⟨(blk_cell BKD.out 0).trans rfl, (blk_cell BKD.out 1).trans rfl, (blk_cell BKD.out 2).trans rfl, (blk_cell BKD.out 3).trans rfl, (blk_cell BKdr.out 4).trans rfl, (blk_cell BKg6.out 0).trans rfl, (blk_cell BKg6.out 1).trans rfl, (blk_cell BKg6.out 2).trans rfl, (blk_cell BKg6.out 3).trans rfl⟩ (fun hHeld => ?_)
    clear hK K
    refine norm_ (a' := ?_) ?_ ?_
    rotate_left
    ·
     show Act.put _ (some 32) _ = _
     simp only [sP]
     rfl
    refine pv 11 7 ?_ #[X,X,X,X,X,X,X,X,X,X,X,X] rfl rfl (by kernel_rfl) (fun _ _ _ h => h) ⟨by rfl, ?_⟩ ?_ ?_ ?_; rotate_left; (intro w'; go_simp; with_reducible rfl); rotate_left; (simp only [sP]; rfl)
    refine done_ (by kernel_rfl) ?_
    obtain ⟨hcD_0, hcD_1, hcD_2, hcD_3, hfD_0, hfD_1, hfD_2, hfD_3⟩ := cs4 BKD.out
    obtain ⟨-, -, -, -, hcdr_4, -, -, -, -, -, -, hfdr_4, -, -⟩ := cs7 BKdr.out
    obtain ⟨hcg6_0, hcg6_1, hcg6_2, hcg6_3, hfg6_0, hfg6_1, hfg6_2, hfg6_3⟩ := cs4 BKg6.out
    go_wp2_with (fail)
    (try clear hcD_0 hfD_0)
    (try clear hcD_1 hfD_1)
    (try clear hcD_2 hfD_2)
    (try clear hcD_3 hfD_3)
    (try clear hcdr_4 hfdr_4)
    (try clear hcg6_0 hfg6_0)
    (try clear hcg6_1 hfg6_1)
    (try clear hcg6_2 hfg6_2)
    (try clear hcg6_3 hfg6_3)
    have hs : Below w16.heap.size w16 (World.drew w16) := below_drew1 (Below.refl _ _)
    have SZ17 := Aside0.mk (show w16.heap.size ≤ (World.drew w16).heap.size from hs.size)
    replace BKD := Aside0.mk (blk_below BKD.out hs)
    replace BKdr := Aside0.mk (blk_below BKdr.out hs)
    replace HHr := Aside0.mk (DiskO.below HHr.out hs)
    replace HFx := Aside0.mk (Kd.F_below HFx.out hs)
    replace BKg6 := Aside0.mk (blk_below BKg6.out hs)
    replace HB := Aside0.mk (Wrote.below HB.out hs)
    clear hs
    refine start_ (n := 15) (S := fun w' => w'.cell? ⟨D, 0, none⟩ = some (.pointer (some ⟨dr, 0, none⟩)) ∧ w'.cell? ⟨D, 1, none⟩ = some (.bool false) ∧ w'.cell? ⟨D, 2, none⟩ = some (.int .i64 0) ∧ w'.cell? ⟨D, 3, none⟩ = some (.int .i64 wn) ∧ w'.cell? ⟨dr, 4, none⟩ = some (.int .i64 sz) ∧ w'.cell? ⟨g6, 0, none⟩ = some (.int .i64 x.f0) ∧ w'.cell? ⟨g6, 1, none⟩ = some (.int .i64 x.f1) ∧ w'.cell? ⟨g6, 2, none⟩ = some (.int .i64 x.f2) ∧ w'.cell? ⟨g6, 3, none⟩ = some (.slice A3 x.f3.length c3)) (ds := []) #[O,O,O,O,O,O,O,O,O,O,O,O,O,O,O] (by kernel_rfl) rfl rfl ⟨(blk_cell BKD.out 0).trans rfl, (blk_cell BKD.out 1).trans rfl, (blk_cell BKD.out 2).trans rfl, (blk_cell BKD.out 3).trans rfl, (blk_cell BKdr.out 4).trans rfl, (blk_cell BKg6.out 0).trans rfl, (blk_cell BKg6.out 1).trans rfl, (blk_cell BKg6.out 2).trans rfl, (blk_cell BKg6.out 3).trans rfl⟩ (fun hHeld => ?_)
    generalize World.drew w16 = w17 at HB BKD BKdr HHr HFx BKg6 SZ17 hHeld ⊢
    refine pv 0 33 ?_ #[X,O,O,O,O,O,O,O,O,O,O,O,O,O,O] rfl rfl (by kernel_rfl) (fun _ _ _ h => h) ⟨by rfl, ?_⟩ ?_ ?_ ?_; rotate_left; (intro w'; go_simp; with_reducible rfl); rotate_left; (simp only [sP]; rfl)
    refine pv 1 34 ?_ #[X,X,O,O,O,O,O,O,O,O,O,O,O,O,O] rfl rfl (by kernel_rfl) (fun _ _ _ h => h) ⟨by rfl, ?_⟩ ?_ ?_ ?_; rotate_left; (intro w'; go_simp; with_reducible rfl); rotate_left; (simp only [sP]; rfl)
    refine pv 2 35 ?_ #[X,X,X,O,O,O,O,O,O,O,O,O,O,O,O] rfl rfl (by kernel_rfl) (fun _ _ _ h => h) ⟨by rfl, ?_⟩ ?_ ?_ ?_; rotate_left; (intro w'; go_simp; with_reducible rfl); rotate_left; (simp only [sP]; rfl)
    refine pv 3 36 ?_ #[X,X,X,X,O,O,O,O,O,O,O,O,O,O,O] rfl rfl (by kernel_rfl) (fun _ _ _ h => h) ⟨by rfl, ?_⟩ ?_ ?_ ?_; rotate_left; (intro w'; go_simp; with_reducible rfl); rotate_left; (simp only [sP]; rfl)
    refine pv 6 39 ?_ #[X,X,X,X,O,O,X,O,O,O,O,O,O,O,O] rfl rfl (by kernel_rfl) (fun _ _ _ h => h) ⟨by rfl, ?_⟩ ?_ ?_ ?_; rotate_left; (intro w'; go_simp; with_reducible rfl); rotate_left; (simp only [sP]; rfl)
    refine pv 7 40 ?_ #[X,X,X,X,O,O,X,X,O,O,O,O,O,O,O] rfl rfl (by kernel_rfl) (fun _ _ _ h => h) ⟨by rfl, ?_⟩ ?_ ?_ ?_; rotate_left; (intro w'; go_simp; with_reducible rfl); rotate_left; (simp only [sP]; rfl)
    refine pv 8 41 ?_ #[X,X,X,X,O,O,X,X,X,O,O,O,O,O,O] rfl rfl (by kernel_rfl) (fun _ _ _ h => h) ⟨by rfl, ?_⟩ ?_ ?_ ?_; rotate_left; (intro w'; go_simp; with_reducible rfl); rotate_left; (simp only [sP]; rfl)
    refine tv 4 37 ?_ #[X,X,X,X,X,O,X,X,X,O,O,O,O,O,O] rfl rfl (by kernel_rfl) (fun _ _ _ h => h) ⟨by rfl, ?_⟩ hHeld ?_ ?_ ?_; rotate_left; (rintro w' ⟨s0, s1, s2, s3, s4, s5, s6, s7, s8⟩; go_simp; with_reducible rfl); rotate_left; (simp only [sP]; rfl)
    refine pv 5 38 ?_ #[X,X,X,X,X,X,X,X,X,O,O,O,O,O,O] rfl rfl (by kernel_rfl) (fun _ _ _ h => h) ⟨by rfl, ?_⟩ ?_ ?_ ?_; rotate_left; (intro w'; go_simp; with_reducible rfl); rotate_left; (simp only [sP]; rfl)
    refine tv 9 42 ?_ #[X,X,X,X,X,X,X,X,X,X,O,O,O,O,O] rfl rfl (by kernel_rfl) (fun _ _ _ h => h) ⟨by rfl, ?_⟩ hHeld ?_ ?_ ?_; rotate_left; (rintro w' ⟨s0, s1, s2, s3, s4, s5, s6, s7, s8⟩; go_simp; with_reducible rfl); rotate_left; (simp only [sP]; rfl)
    refine pv 10 43 ?_ #[X,X,X,X,X,X,X,X,X,X,X,O,O,O,O] rfl rfl (by kernel_rfl) (fun _ _ _ h => h) ⟨by rfl, ?_⟩ ?_ ?_ ?_; rotate_left; (intro w'; go_simp; with_reducible rfl); rotate_left; (simp only [sP]; rfl)
    refine pv 11 44 ?_ #[X,X,X,X,X,X,X,X,X,X,X,X,O,O,O] rfl rfl (by kernel_rfl) (fun _ _ _ h => h) ⟨by rfl, ?_⟩ ?_ ?_ ?_; rotate_left; (intro w'; go_simp; with_reducible rfl); rotate_left; (simp only [sP]; rfl)
    refine tv 12 45 ?_ #[X,X,X,X,X,X,X,X,X,X,X,X,X,O,O] rfl rfl (by kernel_rfl) (fun _ _ _ h => h) ⟨by rfl, ?_⟩ hHeld ?_ ?_ ?_; rotate_left; (rintro w' ⟨s0, s1, s2, s3, s4, s5, s6, s7, s8⟩; go_simp; with_reducible rfl); rotate_left; (simp only [sP]; rfl)
    refine pv 13 46 ?_ #[X,X,X,X,X,X,X,X,X,X,X,X,X,X,O] rfl rfl (by kernel_rfl) (fun _ _ _ h => h) ⟨by rfl, ?_⟩ ?_ ?_ ?_; rotate_left; (intro w'; go_simp; with_reducible rfl); rotate_left; (simp only [sP]; rfl)
    refine pv 14 47 ?_ #[X,X,X,X,X,X,X,X,X,X,X,X,X,X,X] rfl rfl (by kernel_rfl) (fun _ _ _ h => h) ⟨by rfl, ?_⟩ ?_ ?_ ?_; rotate_left; (intro w'; go_simp; with_reducible rfl); rotate_left; (simp only [sP]; rfl)
    refine done_ (by kernel_rfl) ?_
    obtain ⟨hcD_0, hcD_1, hcD_2, hcD_3, hfD_0, hfD_1, hfD_2, hfD_3⟩ := cs4 BKD.out
    obtain ⟨-, -, -, -, hcdr_4, -, -, -, -, -, -, hfdr_4, -, -⟩ := cs7 BKdr.out
    obtain ⟨hcg6_0, hcg6_1, hcg6_2, hcg6_3, hfg6_0, hfg6_1, hfg6_2, hfg6_3⟩ := cs4 BKg6.out
    go_wp2_with (fail)
    (try clear hcD_0 hfD_0)
    (try clear hcD_1 hfD_1)
    (try clear hcD_2 hfD_2)
    (try clear hcD_3 hfD_3)
    (try clear hcdr_4 hfdr_4)
    (try clear hcg6_0 hfg6_0)
    (try clear hcg6_1 hfg6_1)
    (try clear hcg6_2 hfg6_2)
    (try clear hcg6_3 hfg6_3)
    replace BKD := Aside0.mk (blk_put BKD.out 1 (.bool true) rfl)
    replace BKdr := Aside0.mk (blk_far BKdr.out (p := ⟨D, 1, none⟩) (by show _ ≠ _; have := HZ1.out; have := HZ2.out; have := SZ13.out; have := SZ14.out; have := SZ15.out; have := SZ16.out; have := SZ17.out; omega) (.bool true))
    replace HHr := Aside0.mk (HHr.out.setD (off' := true) (cut' := 0) (wr' := wn) 1 (.bool true) rfl)
    replace HFx := Aside0.mk (Kd.F_far HFx.out (p := ⟨D, 1, none⟩) (fun k hk => HKD.out k hk) (.bool true))
    replace BKg6 := Aside0.mk (blk_far BKg6.out (p := ⟨D, 1, none⟩) (by show _ ≠ _; have := HZ1.out; have := HZ2.out; have := SZ13.out; have := SZ14.out; have := SZ15.out; have := SZ16.out; have := SZ17.out; omega) (.bool true))
    replace HB := Aside0.mk (Wrote.cell HB.out (g := D) HHr.out.2.2.2.2.1 (HHr.out.2.2.2.2.2.2 D HHr.out.2.2.2.2.1).1 (j := 1) (.bool true))
    replace BKD := Aside0.mk (blk_put BKD.out 2 (.int .i64 (-1)) rfl)
    replace BKdr := Aside0.mk (blk_far BKdr.out (p := ⟨D, 2, none⟩) (by show _ ≠ _; have := HZ1.out; have := HZ2.out; have := SZ13.out; have := SZ14.out; have := SZ15.out; have := SZ16.out; have := SZ17.out; omega) (.int .i64 (-1)))
    replace HHr := Aside0.mk (HHr.out.setD (off' := true) (cut' := (-1)) (wr' := wn) 2 (.int .i64 (-1)) rfl)
    replace HFx := Aside0.mk (Kd.F_far HFx.out (p := ⟨D, 2, none⟩) (fun k hk => HKD.out k hk) (.int .i64 (-1)))
    replace BKg6 := Aside0.mk (blk_far BKg6.out (p := ⟨D, 2, none⟩) (by show _ ≠ _; have := HZ1.out; have := HZ2.out; have := SZ13.out; have := SZ14.out; have := SZ15.out; have := SZ16.out; have := SZ17.out; omega) (.int .i64 (-1)))
    replace HB := Aside0.mk (Wrote.cell HB.out (g := D) HHr.out.2.2.2.2.1 (HHr.out.2.2.2.2.2.2 D HHr.out.2.2.2.2.1).1 (j := 2) (.int .i64 (-1)))
    have SZ18 := Aside0.mk (show w17.heap.size ≤ ((w17.setCell ⟨D, 1, none⟩ (.bool true)).setCell ⟨D, 2, none⟩ (.int .i64 (-1))).heap.size from by simp [World.setCell])
    generalize ((w17.setCell ⟨D, 1, none⟩ (.bool true)).setCell ⟨D, 2, none⟩ (.int .i64 (-1))) = w18 at HB BKD BKdr HHr HFx BKg6 SZ18 ⊢
    obtain ⟨hcD_0, hcD_1, hcD_2, hcD_3, hfD_0, hfD_1, hfD_2, hfD_3⟩ := cs4 BKD.out
    obtain ⟨-, -, -, -, hcdr_4, -, -, -, -, -, -, hfdr_4, -, -⟩ := cs7 BKdr.out
    obtain ⟨hcg6_0, hcg6_1, hcg6_2, hcg6_3, hfg6_0, hfg6_1, hfg6_2, hfg6_3⟩ := cs4 BKg6.out
    have hR : putsL m d sz l ⟨slots, off, cut, wt⟩ = (⟨sl, true, -1, wn⟩, 9) := by
     rw [← HP.out.1, HDR.out]
     have h1 : put1 m d sz x ⟨sl, false, 0, wn⟩ = (⟨sl, true, -1, wn⟩, 9) := by
      unfold put1
      rw [if_neg (by simp), if_neg (fun h => h.elim (fun h => by have := C2.out; omega) (fun h => h C3.out)), if_pos rfl]
     rw [putsL_stop (by rw [h1]; show (9 : Int) ≠ 0; decide), h1]
    go_ret
    rw [hR]
    exact ⟨rfl, HHr.out.gr HW0.out.1 (fun k hk => hk.2) HH0.out.base_, HW0.out.thenG HB.out⟩
   have d4 : (cu == 0) = false := beq_false_of_ne c4
   have d5 : decide (cu = 0) = false := decide_eq_false c4
   have C4 := Aside0.mk c4
   clear c4
   have hlt4 := (atOf_lt HDD.out.1 (Int.not_lt.mp C2.out)).2.2.2.2.2.2.2
   obtain ⟨i, hi⟩ : ∃ i : Nat, atOf m d x.f0 x.f1 x.f2 = (i : Int) := ⟨(atOf m d x.f0 x.f1 x.f2).toNat, by have := C2.out; omega⟩
   have HI := Aside0.mk (show i < sl.length by have h1 := HP.out.2.1; have h2 := HNN.out; have h3 : sl.length = slots.length := h1; omega)
   have HAT := Aside0.mk hi
   clear hlt4 hi
   by_cases c5 : 0 < cu
   ·
    have d6 : decide (0 < cu) = true := decide_eq_true c5
    have C5 := Aside0.mk c5
    clear c5
    obtain ⟨hcD_0, hcD_1, hcD_2, hcD_3, hfD_0, hfD_1, hfD_2, hfD_3⟩ := cs4 BKD.out
    obtain ⟨-, -, -, -, hcdr_4, -, -, -, -, -, -, hfdr_4, -, -⟩ := cs7 BKdr.out
    have xHc0 := Hc0.out
    have xHc1 := Hc1.out
    have xHc2 := Hc2.out
    have xHc3 := Hc3.out
    have tok5 : True := trivial
    go_wp2_with (first | (have _ := tok5; (with_reducible refine gate_dst (N := 6) rfl ?_); refine box_event rfl (N := 6) rfl (cs := #[.int .i64 0, .int .i64 0, .int .i64 0, .slice none 0 0]) (t := 51) (by go_simp; try rfl) ?_; intro g6 hg w19 hbox hb; have hs : Below wr.heap.size wr w19 := below_step Lt8.b hb; have SZ19 := Aside0.mk (show wr.heap.size ≤ g6 ∧ g6 < w19.heap.size from ⟨by rw [hg]; exact (below_size Lt8.b), blk_lt hbox⟩); (try clear hcD_0 hfD_0); (try clear hcD_1 hfD_1); (try clear hcD_2 hfD_2); (try clear hcD_3 hfD_3); (try clear hcdr_4 hfdr_4); (try clear xHc0); (try clear xHc1); (try clear xHc2); (try clear xHc3); replace BKD := Aside0.mk (blk_below BKD.out hs); replace BKdr := Aside0.mk (blk_below BKdr.out hs); replace Hc0 := Aside0.mk (pw_cell_below hs Hc0.out); replace Hc1 := Aside0.mk (pw_cell_below hs Hc1.out); replace Hc2 := Aside0.mk (pw_cell_below hs Hc2.out); replace Hc3 := Aside0.mk (pw_cell_below hs Hc3.out); replace HHr := Aside0.mk (DiskO.below HHr.out hs); replace HFx := Aside0.mk (Kd.F_below HFx.out hs); replace HB := Aside0.mk (Wrote.below HB.out hs); have hneD_g6 : D ≠ g6 := (by have := SZ19.out; have := HZ1.out; have := HZ2.out; omega); have hneg6_D : g6 ≠ D := hneD_g6.symm; have hnedr_g6 : dr ≠ g6 := (by have := SZ19.out; have := HZ1.out; have := HZ2.out; omega); have hneg6_dr : g6 ≠ dr := hnedr_g6.symm; have BKg6 := Aside0.mk hbox; clear hb hbox hg hs; obtain ⟨hcD_0, hcD_1, hcD_2, hcD_3, hfD_0, hfD_1, hfD_2, hfD_3⟩ := cs4 BKD.out; obtain ⟨-, -, -, -, hcdr_4, -, -, -, -, -, -, hfdr_4, -, -⟩ := cs7 BKdr.out; have xHc0 := Hc0.out; have xHc1 := Hc1.out; have xHc2 := Hc2.out; have xHc3 := Hc3.out; obtain ⟨hcg6_0, hcg6_1, hcg6_2, hcg6_3, hfg6_0, hfg6_1, hfg6_2, hfg6_3⟩ := cs4 BKg6.out; clear tok5))
    (try clear xHc0)
    (try clear xHc1)
    (try clear xHc2)
    (try clear xHc3)
    (try clear hcD_0 hfD_0)
    (try clear hcD_1 hfD_1)
    (try clear hcD_2 hfD_2)
    (try clear hcD_3 hfD_3)
    (try clear hcdr_4 hfdr_4)
    (try clear hcg6_0 hfg6_0)
    (try clear hcg6_1 hfg6_1)
    (try clear hcg6_2 hfg6_2)
    (try clear hcg6_3 hfg6_3)
    replace BKD := Aside0.mk (blk_far BKD.out (p := ⟨g6, 0, none⟩) (by show _ ≠ _; have := HZ1.out; have := HZ2.out; have := SZ19.out; omega) (.int .i64 x.f0))
    replace BKdr := Aside0.mk (blk_far BKdr.out (p := ⟨g6, 0, none⟩) (by show _ ≠ _; have := HZ1.out; have := HZ2.out; have := SZ19.out; omega) (.int .i64 x.f0))
    replace HHr := Aside0.mk (DiskO.kept HHr.out (kept_set _ ⟨g6, 0, none⟩ (.int .i64 x.f0)) (fun k hk e => by have h1 := (HH.out.2.2.2.2.2.2 k hk).2; have h3 : k = g6 := e; have := HZ1.out; have := HZ2.out; have := SZ19.out; omega))
    replace HFx := Aside0.mk (Kd.F_far HFx.out (p := ⟨g6, 0, none⟩) (fun k hk e => by have h1 := HLB.out k hk; have h4 := HW0.out.size; have h3 : k = g6 := e; have := HZ1.out; have := HZ2.out; have := SZ19.out; omega) (.int .i64 x.f0))
    replace BKg6 := Aside0.mk (blk_put BKg6.out 0 (.int .i64 x.f0) rfl)
    replace HB := Aside0.mk (Wrote.new HB.out (g := g6) (j := 0) (by have := HZ1.out; have := HZ2.out; have := SZ19.out; omega) (.int .i64 x.f0))
    replace BKD := Aside0.mk (blk_far BKD.out (p := ⟨g6, 1, none⟩) (by show _ ≠ _; have := HZ1.out; have := HZ2.out; have := SZ19.out; omega) (.int .i64 x.f1))
    replace BKdr := Aside0.mk (blk_far BKdr.out (p := ⟨g6, 1, none⟩) (by show _ ≠ _; have := HZ1.out; have := HZ2.out; have := SZ19.out; omega) (.int .i64 x.f1))
    replace HHr := Aside0.mk (DiskO.kept HHr.out (kept_set _ ⟨g6, 1, none⟩ (.int .i64 x.f1)) (fun k hk e => by have h1 := (HH.out.2.2.2.2.2.2 k hk).2; have h3 : k = g6 := e; have := HZ1.out; have := HZ2.out; have := SZ19.out; omega))
    replace HFx := Aside0.mk (Kd.F_far HFx.out (p := ⟨g6, 1, none⟩) (fun k hk e => by have h1 := HLB.out k hk; have h4 := HW0.out.size; have h3 : k = g6 := e; have := HZ1.out; have := HZ2.out; have := SZ19.out; omega) (.int .i64 x.f1))
    replace BKg6 := Aside0.mk (blk_put BKg6.out 1 (.int .i64 x.f1) rfl)
    replace HB := Aside0.mk (Wrote.new HB.out (g := g6) (j := 1) (by have := HZ1.out; have := HZ2.out; have := SZ19.out; omega) (.int .i64 x.f1))
    replace BKD := Aside0.mk (blk_far BKD.out (p := ⟨g6, 2, none⟩) (by show _ ≠ _; have := HZ1.out; have := HZ2.out; have := SZ19.out; omega) (.int .i64 x.f2))
    replace BKdr := Aside0.mk (blk_far BKdr.out (p := ⟨g6, 2, none⟩) (by show _ ≠ _; have := HZ1.out; have := HZ2.out; have := SZ19.out; omega) (.int .i64 x.f2))
    replace HHr := Aside0.mk (DiskO.kept HHr.out (kept_set _ ⟨g6, 2, none⟩ (.int .i64 x.f2)) (fun k hk e => by have h1 := (HH.out.2.2.2.2.2.2 k hk).2; have h3 : k = g6 := e; have := HZ1.out; have := HZ2.out; have := SZ19.out; omega))
    replace HFx := Aside0.mk (Kd.F_far HFx.out (p := ⟨g6, 2, none⟩) (fun k hk e => by have h1 := HLB.out k hk; have h4 := HW0.out.size; have h3 : k = g6 := e; have := HZ1.out; have := HZ2.out; have := SZ19.out; omega) (.int .i64 x.f2))
    replace BKg6 := Aside0.mk (blk_put BKg6.out 2 (.int .i64 x.f2) rfl)
    replace HB := Aside0.mk (Wrote.new HB.out (g := g6) (j := 2) (by have := HZ1.out; have := HZ2.out; have := SZ19.out; omega) (.int .i64 x.f2))
    replace BKD := Aside0.mk (blk_far BKD.out (p := ⟨g6, 3, none⟩) (by show _ ≠ _; have := HZ1.out; have := HZ2.out; have := SZ19.out; omega) (.slice A3 x.f3.length c3))
    replace BKdr := Aside0.mk (blk_far BKdr.out (p := ⟨g6, 3, none⟩) (by show _ ≠ _; have := HZ1.out; have := HZ2.out; have := SZ19.out; omega) (.slice A3 x.f3.length c3))
    replace HHr := Aside0.mk (DiskO.kept HHr.out (kept_set _ ⟨g6, 3, none⟩ (.slice A3 x.f3.length c3)) (fun k hk e => by have h1 := (HH.out.2.2.2.2.2.2 k hk).2; have h3 : k = g6 := e; have := HZ1.out; have := HZ2.out; have := SZ19.out; omega))
    replace HFx := Aside0.mk (Kd.F_far HFx.out (p := ⟨g6, 3, none⟩) (fun k hk e => by have h1 := HLB.out k hk; have h4 := HW0.out.size; have h3 : k = g6 := e; have := HZ1.out; have := HZ2.out; have := SZ19.out; omega) (.slice A3 x.f3.length c3))
    replace BKg6 := Aside0.mk (blk_put BKg6.out 3 (.slice A3 x.f3.length c3) rfl)
    replace HB := Aside0.mk (Wrote.new HB.out (g := g6) (j := 3) (by have := HZ1.out; have := HZ2.out; have := SZ19.out; omega) (.slice A3 x.f3.length c3))
    have SZ20 := Aside0.mk (show w19.heap.size ≤ ((((w19.setCell ⟨g6, 0, none⟩ (.int .i64 x.f0)).setCell ⟨g6, 1, none⟩ (.int .i64 x.f1)).setCell ⟨g6, 2, none⟩ (.int .i64 x.f2)).setCell ⟨g6, 3, none⟩ (.slice A3 x.f3.length c3)).heap.size from by simp [World.setCell])
    generalize ((((w19.setCell ⟨g6, 0, none⟩ (.int .i64 x.f0)).setCell ⟨g6, 1, none⟩ (.int .i64 x.f1)).setCell ⟨g6, 2, none⟩ (.int .i64 x.f2)).setCell ⟨g6, 3, none⟩ (.slice A3 x.f3.length c3)) = w20 at HB BKD BKdr HHr HFx BKg6 SZ20 ⊢
    obtain ⟨hcD_0, hcD_1, hcD_2, hcD_3, hfD_0, hfD_1, hfD_2, hfD_3⟩ := cs4 BKD.out
    obtain ⟨-, -, -, -, hcdr_4, -, -, -, -, -, -, hfdr_4, -, -⟩ := cs7 BKdr.out
    obtain ⟨hcg6_0, hcg6_1, hcg6_2, hcg6_3, hfg6_0, hfg6_1, hfg6_2, hfg6_3⟩ := cs4 BKg6.out
    (try clear hcD_0 hfD_0)
    (try clear hcD_1 hfD_1)
    (try clear hcD_2 hfD_2)
    (try clear hcD_3 hfD_3)
    (try clear hcdr_4 hfdr_4)
    (try clear hcg6_0 hfg6_0)
    (try clear hcg6_1 hfg6_1)
    (try clear hcg6_2 hfg6_2)
    (try clear hcg6_3 hfg6_3)
    have hs : Below w20.heap.size w20 (World.drew w20) := below_drew1 (Below.refl _ _)
    have SZ21 := Aside0.mk (show w20.heap.size ≤ (World.drew w20).heap.size from hs.size)
    replace BKD := Aside0.mk (blk_below BKD.out hs)
    replace BKdr := Aside0.mk (blk_below BKdr.out hs)
    replace HHr := Aside0.mk (DiskO.below HHr.out hs)
    replace HFx := Aside0.mk (Kd.F_below HFx.out hs)
    replace BKg6 := Aside0.mk (blk_below BKg6.out hs)
    replace HB := Aside0.mk (Wrote.below HB.out hs)
    clear hs
    refine start_ (n := 12) (S := fun w' => w'.cell? ⟨D, 0, none⟩ = some (.pointer (some ⟨dr, 0, none⟩)) ∧ w'.cell? ⟨D, 1, none⟩ = some (.bool false) ∧ w'.cell? ⟨D, 2, none⟩ = some (.int .i64 cu) ∧ w'.cell? ⟨D, 3, none⟩ = some (.int .i64 wn) ∧ w'.cell? ⟨dr, 4, none⟩ = some (.int .i64 sz) ∧ w'.cell? ⟨g6, 0, none⟩ = some (.int .i64 x.f0) ∧ w'.cell? ⟨g6, 1, none⟩ = some (.int .i64 x.f1) ∧ w'.cell? ⟨g6, 2, none⟩ = some (.int .i64 x.f2) ∧ w'.cell? ⟨g6, 3, none⟩ = some (.slice A3 x.f3.length c3)) (ds := []) #[O,O,O,O,O,O,O,O,O,O,O,O] (by kernel_rfl) rfl rfl ⟨(blk_cell BKD.out 0).trans rfl, (blk_cell BKD.out 1).trans rfl, (blk_cell BKD.out 2).trans rfl, (blk_cell BKD.out 3).trans rfl, (blk_cell BKdr.out 4).trans rfl, (blk_cell BKg6.out 0).trans rfl, (blk_cell BKg6.out 1).trans rfl, (blk_cell BKg6.out 2).trans rfl, (blk_cell BKg6.out 3).trans rfl⟩ (fun hHeld => ?_)
    generalize World.drew w20 = w21 at HB BKD BKdr HHr HFx BKg6 SZ21 hHeld ⊢
    refine pv 0 22 ?_ #[X,O,O,O,O,O,O,O,O,O,O,O] rfl rfl (by kernel_rfl) (fun _ _ _ h => h) ⟨by rfl, ?_⟩ ?_ ?_ ?_; rotate_left; (intro w'; go_simp; with_reducible rfl); rotate_left; (simp only [sP]; rfl)
    refine pv 1 23 ?_ #[X,X,O,O,O,O,O,O,O,O,O,O] rfl rfl (by kernel_rfl) (fun _ _ _ h => h) ⟨by rfl, ?_⟩ ?_ ?_ ?_; rotate_left; (intro w'; go_simp; with_reducible rfl); rotate_left; (simp only [sP]; rfl)
    refine pv 2 24 ?_ #[X,X,X,O,O,O,O,O,O,O,O,O] rfl rfl (by kernel_rfl) (fun _ _ _ h => h) ⟨by rfl, ?_⟩ ?_ ?_ ?_; rotate_left; (intro w'; go_simp; with_reducible rfl); rotate_left; (simp only [sP]; rfl)
    refine pv 4 26 ?_ #[X,X,X,O,X,O,O,O,O,O,O,O] rfl rfl (by kernel_rfl) (fun _ _ _ h => h) ⟨by rfl, ?_⟩ ?_ ?_ ?_; rotate_left; (intro w'; go_simp; with_reducible rfl); rotate_left; (simp only [sP]; rfl)
    refine pv 6 28 ?_ #[X,X,X,O,X,O,X,O,O,O,O,O] rfl rfl (by kernel_rfl) (fun _ _ _ h => h) ⟨by rfl, ?_⟩ ?_ ?_ ?_; rotate_left; (intro w'; go_simp; with_reducible rfl); rotate_left; (simp only [sP]; rfl)
    refine pv 8 30 ?_ #[X,X,X,O,X,O,X,O,X,O,O,O] rfl rfl (by kernel_rfl) (fun _ _ _ h => h) ⟨by rfl, ?_⟩ ?_ ?_ ?_; rotate_left; (intro w'; go_simp; with_reducible rfl); rotate_left; (simp only [sP]; rfl)
    refine tv 3 25 ?_ #[X,X,X,X,X,O,X,O,X,O,O,O] rfl rfl (by kernel_rfl) (fun _ _ _ h => h) ⟨by rfl, ?_⟩ hHeld ?_ ?_ ?_; rotate_left; (rintro w' ⟨s0, s1, s2, s3, s4, s5, s6, s7, s8⟩; go_simp; with_reducible rfl); rotate_left; (simp only [sP]; rfl)
    refine tv 5 27 ?_ #[X,X,X,X,X,X,X,O,X,O,O,O] rfl rfl (by kernel_rfl) (fun _ _ _ h => h) ⟨by rfl, ?_⟩ hHeld ?_ ?_ ?_; rotate_left; (rintro w' ⟨s0, s1, s2, s3, s4, s5, s6, s7, s8⟩; go_simp; with_reducible rfl); rotate_left; (simp only [sP]; rfl)
    refine tv 7 29 ?_ #[X,X,X,X,X,X,X,X,X,O,O,O] rfl rfl (by kernel_rfl) (fun _ _ _ h => h) ⟨by rfl, ?_⟩ hHeld ?_ ?_ ?_; rotate_left; (rintro w' ⟨s0, s1, s2, s3, s4, s5, s6, s7, s8⟩; go_simp; with_reducible rfl); rotate_left; (simp only [sP]; rfl)
    refine tv 9 31 ?_ #[X,X,X,X,X,X,X,X,X,X,O,O] rfl rfl (by kernel_rfl) (fun _ _ _ h => h) ⟨by rfl, ?_⟩ hHeld ?_ ?_ ?_; rotate_left; (rintro w' ⟨s0, s1, s2, s3, s4, s5, s6, s7, s8⟩; go_simp; with_reducible rfl); rotate_left; (simp only [sP]; rfl)
    refine one_ (i := 10) (N := some 32) #[X,X,X,X,X,X,X,X,X,X,X,O] rfl rfl (by kernel_rfl) (by decide) (fun K hK => ?_)
    refine goes_ Try.func46 (by kernel_rfl) rfl #[.pointer (some ⟨dr, 0, none⟩), .int .i64 x.f0, .int .i64 x.f1, .int .i64 x.f2] (by rfl) rfl rfl (by simp only [List.map_toArray, List.map_cons, List.map_nil]; rfl) ?_
    with_reducible refine (at_yes dr a b c d sz As Ag n cs m cg x.f0 x.f1 x.f2 _ (sB BKdr.out) HM.out HDD.out).mono ?_
    rintro e w22 ⟨rfl, hd⟩
    refine ⟨_, rfl, ?_⟩
    have hb := hd.below
    have hs : Below w21.heap.size w21 w22 := below_step Lt8.b hb
    skip
    have SZ22 := Aside0.mk (show w21.heap.size ≤ w22.heap.size from hs.size)
    replace BKD := Aside0.mk (blk_below BKD.out hs)
    replace BKdr := Aside0.mk (blk_below BKdr.out hs)
    replace HHr := Aside0.mk (DiskO.below HHr.out hs)
    replace HFx := Aside0.mk (Kd.F_below HFx.out hs)
    replace BKg6 := Aside0.mk (blk_below BKg6.out hs)
    replace HB := Aside0.mk (Wrote.below HB.out hs)
    clear hs hb
    (try clear hl)
    refine hK.out _ _ ⟨(blk_cell BKD.out 0).trans rfl, (blk_cell BKD.out 1).trans rfl, (blk_cell BKD.out 2).trans rfl, (blk_cell BKD.out 3).trans rfl, (blk_cell BKdr.out 4).trans rfl, (blk_cell BKg6.out 0).trans rfl, (blk_cell BKg6.out 1).trans rfl, (blk_cell BKg6.out 2).trans rfl, (blk_cell BKg6.out 3).trans rfl⟩ (fun hHeld => ?_)
    clear hK K
    refine norm_ (a' := ?_) ?_ ?_
    rotate_left
    ·
     show Act.put _ (some 32) _ = _
     simp only [sP]
     rfl
    refine pv 11 7 ?_ #[X,X,X,X,X,X,X,X,X,X,X,X] rfl rfl (by kernel_rfl) (fun _ _ _ h => h) ⟨by rfl, ?_⟩ ?_ ?_ ?_; rotate_left; (intro w'; go_simp; with_reducible rfl); rotate_left; (simp only [sP]; rfl)
    refine done_ (by kernel_rfl) ?_
    obtain ⟨hcD_0, hcD_1, hcD_2, hcD_3, hfD_0, hfD_1, hfD_2, hfD_3⟩ := cs4 BKD.out
    obtain ⟨-, -, -, -, hcdr_4, -, -, -, -, -, -, hfdr_4, -, -⟩ := cs7 BKdr.out
    obtain ⟨hcg6_0, hcg6_1, hcg6_2, hcg6_3, hfg6_0, hfg6_1, hfg6_2, hfg6_3⟩ := cs4 BKg6.out
    go_wp2_with (fail)
    (try clear hcD_0 hfD_0)
    (try clear hcD_1 hfD_1)
    (try clear hcD_2 hfD_2)
    (try clear hcD_3 hfD_3)
    (try clear hcdr_4 hfdr_4)
    (try clear hcg6_0 hfg6_0)
    (try clear hcg6_1 hfg6_1)
    (try clear hcg6_2 hfg6_2)
    (try clear hcg6_3 hfg6_3)
    have hs : Below w22.heap.size w22 (World.drew w22) := below_drew1 (Below.refl _ _)
    have SZ23 := Aside0.mk (show w22.heap.size ≤ (World.drew w22).heap.size from hs.size)
    replace BKD := Aside0.mk (blk_below BKD.out hs)
    replace BKdr := Aside0.mk (blk_below BKdr.out hs)
    replace HHr := Aside0.mk (DiskO.below HHr.out hs)
    replace HFx := Aside0.mk (Kd.F_below HFx.out hs)
    replace BKg6 := Aside0.mk (blk_below BKg6.out hs)
    replace HB := Aside0.mk (Wrote.below HB.out hs)
    clear hs
    refine start_ (n := 15) (S := fun w' => w'.cell? ⟨D, 0, none⟩ = some (.pointer (some ⟨dr, 0, none⟩)) ∧ w'.cell? ⟨D, 1, none⟩ = some (.bool false) ∧ w'.cell? ⟨D, 2, none⟩ = some (.int .i64 cu) ∧ w'.cell? ⟨D, 3, none⟩ = some (.int .i64 wn) ∧ w'.cell? ⟨dr, 4, none⟩ = some (.int .i64 sz) ∧ w'.cell? ⟨g6, 0, none⟩ = some (.int .i64 x.f0) ∧ w'.cell? ⟨g6, 1, none⟩ = some (.int .i64 x.f1) ∧ w'.cell? ⟨g6, 2, none⟩ = some (.int .i64 x.f2) ∧ w'.cell? ⟨g6, 3, none⟩ = some (.slice A3 x.f3.length c3)) (ds := []) #[O,O,O,O,O,O,O,O,O,O,O,O,O,O,O] (by kernel_rfl) rfl rfl ⟨(blk_cell BKD.out 0).trans rfl, (blk_cell BKD.out 1).trans rfl, (blk_cell BKD.out 2).trans rfl, (blk_cell BKD.out 3).trans rfl, (blk_cell BKdr.out 4).trans rfl, (blk_cell BKg6.out 0).trans rfl, (blk_cell BKg6.out 1).trans rfl, (blk_cell BKg6.out 2).trans rfl, (blk_cell BKg6.out 3).trans rfl⟩ (fun hHeld => ?_)
    generalize World.drew w22 = w23 at HB BKD BKdr HHr HFx BKg6 SZ23 hHeld ⊢
    refine pv 0 33 ?_ #[X,O,O,O,O,O,O,O,O,O,O,O,O,O,O] rfl rfl (by kernel_rfl) (fun _ _ _ h => h) ⟨by rfl, ?_⟩ ?_ ?_ ?_; rotate_left; (intro w'; go_simp; with_reducible rfl); rotate_left; (simp only [sP]; rfl)
    refine pv 1 34 ?_ #[X,X,O,O,O,O,O,O,O,O,O,O,O,O,O] rfl rfl (by kernel_rfl) (fun _ _ _ h => h) ⟨by rfl, ?_⟩ ?_ ?_ ?_; rotate_left; (intro w'; go_simp; with_reducible rfl); rotate_left; (simp only [sP]; rfl)
    refine pv 2 35 ?_ #[X,X,X,O,O,O,O,O,O,O,O,O,O,O,O] rfl rfl (by kernel_rfl) (fun _ _ _ h => h) ⟨by rfl, ?_⟩ ?_ ?_ ?_; rotate_left; (intro w'; go_simp; with_reducible rfl); rotate_left; (simp only [sP]; rfl)
    refine pv 3 36 ?_ #[X,X,X,X,O,O,O,O,O,O,O,O,O,O,O] rfl rfl (by kernel_rfl) (fun _ _ _ h => h) ⟨by rfl, ?_⟩ ?_ ?_ ?_; rotate_left; (intro w'; go_simp; with_reducible rfl); rotate_left; (simp only [sP]; rfl)
    refine pv 6 39 ?_ #[X,X,X,X,O,O,X,O,O,O,O,O,O,O,O] rfl rfl (by kernel_rfl) (fun _ _ _ h => h) ⟨by rfl, ?_⟩ ?_ ?_ ?_; rotate_left; (intro w'; go_simp; with_reducible rfl); rotate_left; (simp only [sP]; rfl)
    refine pv 7 40 ?_ #[X,X,X,X,O,O,X,X,O,O,O,O,O,O,O] rfl rfl (by kernel_rfl) (fun _ _ _ h => h) ⟨by rfl, ?_⟩ ?_ ?_ ?_; rotate_left; (intro w'; go_simp; with_reducible rfl); rotate_left; (simp only [sP]; rfl)
    refine pv 8 41 ?_ #[X,X,X,X,O,O,X,X,X,O,O,O,O,O,O] rfl rfl (by kernel_rfl) (fun _ _ _ h => h) ⟨by rfl, ?_⟩ ?_ ?_ ?_; rotate_left; (intro w'; go_simp; with_reducible rfl); rotate_left; (simp only [sP]; rfl)
    refine tv 4 37 ?_ #[X,X,X,X,X,O,X,X,X,O,O,O,O,O,O] rfl rfl (by kernel_rfl) (fun _ _ _ h => h) ⟨by rfl, ?_⟩ hHeld ?_ ?_ ?_; rotate_left; (rintro w' ⟨s0, s1, s2, s3, s4, s5, s6, s7, s8⟩; go_simp; with_reducible rfl); rotate_left; (simp only [sP]; rfl)
    refine pv 5 38 ?_ #[X,X,X,X,X,X,X,X,X,O,O,O,O,O,O] rfl rfl (by kernel_rfl) (fun _ _ _ h => h) ⟨by rfl, ?_⟩ ?_ ?_ ?_; rotate_left; (intro w'; go_simp; with_reducible rfl); rotate_left; (simp only [sP]; rfl)
    refine tv 9 42 ?_ #[X,X,X,X,X,X,X,X,X,X,O,O,O,O,O] rfl rfl (by kernel_rfl) (fun _ _ _ h => h) ⟨by rfl, ?_⟩ hHeld ?_ ?_ ?_; rotate_left; (rintro w' ⟨s0, s1, s2, s3, s4, s5, s6, s7, s8⟩; go_simp; with_reducible rfl); rotate_left; (simp only [sP]; rfl)
    refine pv 10 43 ?_ #[X,X,X,X,X,X,X,X,X,X,X,O,O,O,O] rfl rfl (by kernel_rfl) (fun _ _ _ h => h) ⟨by rfl, ?_⟩ ?_ ?_ ?_; rotate_left; (intro w'; go_simp; with_reducible rfl); rotate_left; (simp only [sP]; rfl)
    refine pv 11 44 ?_ #[X,X,X,X,X,X,X,X,X,X,X,X,O,O,O] rfl rfl (by kernel_rfl) (fun _ _ _ h => h) ⟨by rfl, ?_⟩ ?_ ?_ ?_; rotate_left; (intro w'; go_simp; with_reducible rfl); rotate_left; (simp only [sP]; rfl)
    refine tv 12 45 ?_ #[X,X,X,X,X,X,X,X,X,X,X,X,X,O,O] rfl rfl (by kernel_rfl) (fun _ _ _ h => h) ⟨by rfl, ?_⟩ hHeld ?_ ?_ ?_; rotate_left; (rintro w' ⟨s0, s1, s2, s3, s4, s5, s6, s7, s8⟩; go_simp; with_reducible rfl); rotate_left; (simp only [sP]; rfl)
    refine pv 13 46 ?_ #[X,X,X,X,X,X,X,X,X,X,X,X,X,X,O] rfl rfl (by kernel_rfl) (fun _ _ _ h => h) ⟨by rfl, ?_⟩ ?_ ?_ ?_; rotate_left; (intro w'; go_simp; with_reducible rfl); rotate_left; (simp only [sP]; rfl)
    refine pv 14 47 ?_ #[X,X,X,X,X,X,X,X,X,X,X,X,X,X,X] rfl rfl (by kernel_rfl) (fun _ _ _ h => h) ⟨by rfl, ?_⟩ ?_ ?_ ?_; rotate_left; (intro w'; go_simp; with_reducible rfl); rotate_left; (simp only [sP]; rfl)
    refine done_ (by kernel_rfl) ?_
    obtain ⟨hcD_0, hcD_1, hcD_2, hcD_3, hfD_0, hfD_1, hfD_2, hfD_3⟩ := cs4 BKD.out
    obtain ⟨-, -, -, -, hcdr_4, -, -, -, -, -, -, hfdr_4, -, -⟩ := cs7 BKdr.out
    obtain ⟨hcg6_0, hcg6_1, hcg6_2, hcg6_3, hfg6_0, hfg6_1, hfg6_2, hfg6_3⟩ := cs4 BKg6.out
    go_wp2_with (fail)
    (try clear hcD_0 hfD_0)
    (try clear hcD_1 hfD_1)
    (try clear hcD_2 hfD_2)
    (try clear hcD_3 hfD_3)
    (try clear hcdr_4 hfdr_4)
    (try clear hcg6_0 hfg6_0)
    (try clear hcg6_1 hfg6_1)
    (try clear hcg6_2 hfg6_2)
    (try clear hcg6_3 hfg6_3)
    replace BKD := Aside0.mk (blk_put BKD.out 2 (.int .i64 (wrap64 (cu - 1))) rfl)
    replace BKdr := Aside0.mk (blk_far BKdr.out (p := ⟨D, 2, none⟩) (by show _ ≠ _; have := HZ1.out; have := HZ2.out; have := SZ19.out; have := SZ20.out; have := SZ21.out; have := SZ22.out; have := SZ23.out; omega) (.int .i64 (wrap64 (cu - 1))))
    replace HHr := Aside0.mk (HHr.out.setD (off' := false) (cut' := (wrap64 (cu - 1))) (wr' := wn) 2 (.int .i64 (wrap64 (cu - 1))) rfl)
    replace HFx := Aside0.mk (Kd.F_far HFx.out (p := ⟨D, 2, none⟩) (fun k hk => HKD.out k hk) (.int .i64 (wrap64 (cu - 1))))
    replace BKg6 := Aside0.mk (blk_far BKg6.out (p := ⟨D, 2, none⟩) (by show _ ≠ _; have := HZ1.out; have := HZ2.out; have := SZ19.out; have := SZ20.out; have := SZ21.out; have := SZ22.out; have := SZ23.out; omega) (.int .i64 (wrap64 (cu - 1))))
    replace HB := Aside0.mk (Wrote.cell HB.out (g := D) HHr.out.2.2.2.2.1 (HHr.out.2.2.2.2.2.2 D HHr.out.2.2.2.2.1).1 (j := 2) (.int .i64 (wrap64 (cu - 1))))
    have SZ24 := Aside0.mk (show w23.heap.size ≤ (w23.setCell ⟨D, 2, none⟩ (.int .i64 (wrap64 (cu - 1)))).heap.size from by simp [World.setCell])
    generalize (w23.setCell ⟨D, 2, none⟩ (.int .i64 (wrap64 (cu - 1)))) = w24 at HB BKD BKdr HHr HFx BKg6 SZ24 ⊢
    obtain ⟨hcD_0, hcD_1, hcD_2, hcD_3, hfD_0, hfD_1, hfD_2, hfD_3⟩ := cs4 BKD.out
    obtain ⟨-, -, -, -, hcdr_4, -, -, -, -, -, -, hfdr_4, -, -⟩ := cs7 BKdr.out
    obtain ⟨hcg6_0, hcg6_1, hcg6_2, hcg6_3, hfg6_0, hfg6_1, hfg6_2, hfg6_3⟩ := cs4 BKg6.out
    (try clear hcD_0 hfD_0)
    (try clear hcD_1 hfD_1)
    (try clear hcD_2 hfD_2)
    (try clear hcD_3 hfD_3)
    (try clear hcdr_4 hfdr_4)
    (try clear hcg6_0 hfg6_0)
    (try clear hcg6_1 hfg6_1)
    (try clear hcg6_2 hfg6_2)
    (try clear hcg6_3 hfg6_3)
    have hs : Below w24.heap.size w24 (World.drew w24) := below_drew1 (Below.refl _ _)
    have SZ25 := Aside0.mk (show w24.heap.size ≤ (World.drew w24).heap.size from hs.size)
    replace BKD := Aside0.mk (blk_below BKD.out hs)
    replace BKdr := Aside0.mk (blk_below BKdr.out hs)
    replace HHr := Aside0.mk (DiskO.below HHr.out hs)
    replace HFx := Aside0.mk (Kd.F_below HFx.out hs)
    replace BKg6 := Aside0.mk (blk_below BKg6.out hs)
    replace HB := Aside0.mk (Wrote.below HB.out hs)
    clear hs
    refine start_ (n := 7) (S := fun w' => w'.cell? ⟨D, 0, none⟩ = some (.pointer (some ⟨dr, 0, none⟩)) ∧ w'.cell? ⟨D, 1, none⟩ = some (.bool false) ∧ w'.cell? ⟨D, 2, none⟩ = some (.int .i64 (wrap64 (cu - 1))) ∧ w'.cell? ⟨D, 3, none⟩ = some (.int .i64 wn) ∧ w'.cell? ⟨dr, 4, none⟩ = some (.int .i64 sz) ∧ w'.cell? ⟨g6, 0, none⟩ = some (.int .i64 x.f0) ∧ w'.cell? ⟨g6, 1, none⟩ = some (.int .i64 x.f1) ∧ w'.cell? ⟨g6, 2, none⟩ = some (.int .i64 x.f2) ∧ w'.cell? ⟨g6, 3, none⟩ = some (.slice A3 x.f3.length c3)) (ds := [5]) #[O,O,O,O,O,O,O] (by kernel_rfl) rfl rfl ⟨(blk_cell BKD.out 0).trans rfl, (blk_cell BKD.out 1).trans rfl, (blk_cell BKD.out 2).trans rfl, (blk_cell BKD.out 3).trans rfl, (blk_cell BKdr.out 4).trans rfl, (blk_cell BKg6.out 0).trans rfl, (blk_cell BKg6.out 1).trans rfl, (blk_cell BKg6.out 2).trans rfl, (blk_cell BKg6.out 3).trans rfl⟩ (fun hHeld => ?_)
    generalize World.drew w24 = w25 at HB BKD BKdr HHr HFx BKg6 SZ25 hHeld ⊢
    refine pv 0 71 ?_ #[X,O,O,O,O,O,O] rfl rfl (by kernel_rfl) (fun _ _ _ h => h) ⟨by rfl, ?_⟩ ?_ ?_ ?_; rotate_left; (intro w'; go_simp; with_reducible rfl); rotate_left; (simp only [sP]; rfl)
    refine pv 1 72 ?_ #[X,X,O,O,O,O,O] rfl rfl (by kernel_rfl) (fun _ _ _ h => h) ⟨by rfl, ?_⟩ ?_ ?_ ?_; rotate_left; (intro w'; go_simp; with_reducible rfl); rotate_left; (simp only [sP]; rfl)
    refine pv 2 73 ?_ #[X,X,X,O,O,O,O] rfl rfl (by kernel_rfl) (fun _ _ _ h => h) ⟨by rfl, ?_⟩ ?_ ?_ ?_; rotate_left; (intro w'; go_simp; with_reducible rfl); rotate_left; (simp only [sP]; rfl)
    refine tv 3 74 ?_ #[X,X,X,X,O,O,O] rfl rfl (by kernel_rfl) (fun _ _ _ h => h) ⟨by rfl, ?_⟩ hHeld ?_ ?_ ?_; rotate_left; (rintro w' ⟨s0, s1, s2, s3, s4, s5, s6, s7, s8⟩; go_simp; with_reducible rfl); rotate_left; (simp only [sP]; rfl)
    refine tv 4 75 ?_ #[X,X,X,X,X,O,O] rfl rfl (by kernel_rfl) (fun _ _ _ h => h) ⟨by rfl, ?_⟩ hHeld ?_ ?_ ?_; rotate_left; (rintro w' ⟨s0, s1, s2, s3, s4, s5, s6, s7, s8⟩; go_simp; with_reducible rfl); rotate_left; (simp only [sP]; rfl)
    refine last_ (i := 5) (N := some 76) #[X,X,X,X,X,X,O] rfl rfl (by kernel_rfl) (by decide) (fun K hK => ?_)
    refine goes_ Try.func47 (by kernel_rfl) rfl #[.pointer (some ⟨dr, 0, none⟩), .agg #[.int .i64 x.f0, .int .i64 x.f1, .int .i64 x.f2, .slice A3 x.f3.length c3]] (by rfl) rfl rfl (by simp only [List.map_toArray, List.map_cons, List.map_nil]; rfl) ?_
    with_reducible refine (hold_any D dr As Ag n cs m cg a b c d sz sl gone false (wrap64 (cu - 1)) wn base (Gr ok w wr) x.f0 x.f1 x.f2 A3 x.f3 c3 i _ ?s1 HM.out HDD.out HAT.out HI.out C3.out ALE.out ?s2 (by have := C3.out; have := HSZ.out; omega)).mono ?_
    (case s1 => exact DiskO.below HHr.out Lt8.b)
    (case s2 => exact Kd.C_below (Kd.F_now HFx.out) Lt8.b)
    rintro e wh ⟨rfl, hD2, hW2⟩
    refine ⟨_, rfl, ?_⟩
    have HB2 := Aside0.mk (HW0.out.thenG (HB.out.then_ hW2 (fun _ hk => .inl hk)))
    have HH2 := Aside0.mk hD2
    clear hD2 hW2
    refine hK.out _ _ ?_
    clear hK K
    refine norm_ (a' := ?_) ?_ ?_
    rotate_left
    ·
     show Act.put _ (some 76) _ = _
     simp only [sP]
     rfl
    refine pv 6 8 ?_ #[X,X,X,X,X,X,X] rfl rfl (by kernel_rfl) (fun _ _ _ h => h) ⟨by rfl, ?_⟩ ?_ ?_ ?_; rotate_left; (intro w'; go_simp; with_reducible rfl); rotate_left; (simp only [sP]; rfl)
    refine done_ (by kernel_rfl) ?_
    obtain ⟨hcD_0, hcD_1, hcD_2, hcD_3, hfD_0, hfD_1, hfD_2, hfD_3⟩ := cs4 BKD.out
    obtain ⟨-, -, -, -, hcdr_4, -, -, -, -, -, -, hfdr_4, -, -⟩ := cs7 BKdr.out
    obtain ⟨hcg6_0, hcg6_1, hcg6_2, hcg6_3, hfg6_0, hfg6_1, hfg6_2, hfg6_3⟩ := cs4 BKg6.out
    (try clear hcD_0 hfD_0)
    (try clear hcD_1 hfD_1)
    (try clear hcD_2 hfD_2)
    (try clear hcD_3 hfD_3)
    (try clear hcdr_4 hfdr_4)
    (try clear hcg6_0 hfg6_0)
    (try clear hcg6_1 hfg6_1)
    (try clear hcg6_2 hfg6_2)
    (try clear hcg6_3 hfg6_3)
    clear HB HHr BKD
    have HB := HB2
    have HHr := HH2
    have BKD := Aside0.mk HH2.out.1
    clear HB2 HH2
    have SZh := Aside0.mk (show D < wh.heap.size from blk_lt BKD.out)
    obtain ⟨hcD_0, hcD_1, hcD_2, hcD_3, hfD_0, hfD_1, hfD_2, hfD_3⟩ := cs4 BKD.out
    go_wp2_with (fail)
    (try clear hcD_0 hfD_0)
    (try clear hcD_1 hfD_1)
    (try clear hcD_2 hfD_2)
    (try clear hcD_3 hfD_3)
    replace BKD := Aside0.mk (blk_put BKD.out 3 (.int .i64 (wrap64 (wn + 1))) rfl)
    replace HHr := Aside0.mk (HHr.out.setD (off' := false) (cut' := (wrap64 (cu - 1))) (wr' := (wrap64 (wn + 1))) 3 (.int .i64 (wrap64 (wn + 1))) rfl)
    replace HB := Aside0.mk (Wrote.cell HB.out (g := D) HH0.out.2.2.2.2.1 (HH0.out.base_ D HH0.out.2.2.2.2.1) (j := 3) (.int .i64 (wrap64 (wn + 1))))
    have SZ26 := Aside0.mk (show wh.heap.size ≤ (wh.setCell ⟨D, 3, none⟩ (.int .i64 (wrap64 (wn + 1)))).heap.size from by simp [World.setCell])
    generalize (wh.setCell ⟨D, 3, none⟩ (.int .i64 (wrap64 (wn + 1)))) = w26 at HB BKD HHr SZ26 ⊢
    obtain ⟨hcD_0, hcD_1, hcD_2, hcD_3, hfD_0, hfD_1, hfD_2, hfD_3⟩ := cs4 BKD.out
    have hwp := HP.out
    have hax := AX.out
    have hlk := HK.out
    have hln := HLN.out
    have hw1 := HWR.out
    have ew : wrap64 (wn + 1) = wn + 1 := by
     have h1 : 0 ≤ wn := hwp.2.2.1
     have h2 : wn ≤ wt + k := hwp.2.2.2.1
     unfold wrap64
     omega
    have ec : wrap64 (cu - 1) = cu - 1 := by
     have h1 : cu ≤ 9223372036854775807 := hwp.2.2.2.2.2
     have h2 := C5.out
     unfold wrap64
     omega
    have h1 : put1 m d sz x ⟨sl, false, cu, wn⟩ = (⟨sl.set i x.f3, false, cu - 1, wn + 1⟩, 0) := by
     unfold put1
     rw [if_neg (by simp), if_neg (fun h => h.elim (fun h => by have := C2.out; omega) (fun h => h C3.out)), if_neg C4.out, HAT.out, Int.toNat_natCast]
     rw [if_pos (show 0 < cu by have := C5.out; omega)]
    have hR : putsL m d sz (l.drop (k + 1)) ⟨sl.set i x.f3, false, cu - 1, wn + 1⟩ = putsL m d sz l ⟨slots, off, cut, wt⟩ := by
     rw [← hwp.1, HDR.out, putsL_go (by rw [h1]), h1]
    rw [ew, ec] at HHr
    go_roundg (gk - 1)
    case measure => omega
    case rel =>
     refine ⟨k + 1, ⟨sl.set i x.f3, false, cu - 1, wn + 1⟩, by rw [show wrap64 ((k : Int) + 1) = ((k + 1 : Nat) : Int) by unfold wrap64; omega], Aside0.mk ⟨by omega, by omega⟩, Aside0.mk (HHr.out.gr HW0.out.1 ?_ HH0.out.base_), HB, Aside0.mk ⟨hR, by rw [← hwp.2.1]; exact List.length_set, ?_, ?_, ?_, ?_⟩⟩
     ·
      rintro q ⟨_, hq | hq⟩
      ·
       exact hq.2
      ·
       exact .inr (by have h7 := HW0.out.size; have := HZ1.out; have := HZ2.out; have := SZ19.out; have := SZ20.out; have := SZ21.out; have := SZ22.out; have := SZ23.out; have := SZ24.out; have := SZ25.out; omega)
     ·
      have h2 : 0 ≤ wn := hwp.2.2.1
      show 0 ≤ wn + 1
      omega
     ·
      have h2 : wn ≤ wt + k := hwp.2.2.2.1
      show wn + 1 ≤ wt + ((k + 1 : Nat) : Int)
      omega
     ·
      show -1 ≤ cu - 1
      have h2 := C5.out
      omega
     ·
      show cu - 1 ≤ 9223372036854775807
      have h2 : cu ≤ 9223372036854775807 := hwp.2.2.2.2.2
      omega
   have d6 : decide (0 < cu) = false := decide_eq_false c5
   have C5 := Aside0.mk c5
   clear c5
   have _ := trivial
   obtain ⟨hcD_0, hcD_1, hcD_2, hcD_3, hfD_0, hfD_1, hfD_2, hfD_3⟩ := cs4 BKD.out
   obtain ⟨-, -, -, -, hcdr_4, -, -, -, -, -, -, hfdr_4, -, -⟩ := cs7 BKdr.out
   have xHc0 := Hc0.out
   have xHc1 := Hc1.out
   have xHc2 := Hc2.out
   have xHc3 := Hc3.out
   have tok6 : True := trivial
   go_wp2_with (first | (have _ := tok6; (with_reducible refine gate_dst (N := 6) rfl ?_); refine box_event rfl (N := 6) rfl (cs := #[.int .i64 0, .int .i64 0, .int .i64 0, .slice none 0 0]) (t := 51) (by go_simp; try rfl) ?_; intro g6 hg w27 hbox hb; have hs : Below wr.heap.size wr w27 := below_step Lt8.b hb; have SZ27 := Aside0.mk (show wr.heap.size ≤ g6 ∧ g6 < w27.heap.size from ⟨by rw [hg]; exact (below_size Lt8.b), blk_lt hbox⟩); (try clear hcD_0 hfD_0); (try clear hcD_1 hfD_1); (try clear hcD_2 hfD_2); (try clear hcD_3 hfD_3); (try clear hcdr_4 hfdr_4); (try clear xHc0); (try clear xHc1); (try clear xHc2); (try clear xHc3); replace BKD := Aside0.mk (blk_below BKD.out hs); replace BKdr := Aside0.mk (blk_below BKdr.out hs); replace Hc0 := Aside0.mk (pw_cell_below hs Hc0.out); replace Hc1 := Aside0.mk (pw_cell_below hs Hc1.out); replace Hc2 := Aside0.mk (pw_cell_below hs Hc2.out); replace Hc3 := Aside0.mk (pw_cell_below hs Hc3.out); replace HHr := Aside0.mk (DiskO.below HHr.out hs); replace HFx := Aside0.mk (Kd.F_below HFx.out hs); replace HB := Aside0.mk (Wrote.below HB.out hs); have hneD_g6 : D ≠ g6 := (by have := SZ27.out; have := HZ1.out; have := HZ2.out; omega); have hneg6_D : g6 ≠ D := hneD_g6.symm; have hnedr_g6 : dr ≠ g6 := (by have := SZ27.out; have := HZ1.out; have := HZ2.out; omega); have hneg6_dr : g6 ≠ dr := hnedr_g6.symm; have BKg6 := Aside0.mk hbox; clear hb hbox hg hs; obtain ⟨hcD_0, hcD_1, hcD_2, hcD_3, hfD_0, hfD_1, hfD_2, hfD_3⟩ := cs4 BKD.out; obtain ⟨-, -, -, -, hcdr_4, -, -, -, -, -, -, hfdr_4, -, -⟩ := cs7 BKdr.out; have xHc0 := Hc0.out; have xHc1 := Hc1.out; have xHc2 := Hc2.out; have xHc3 := Hc3.out; obtain ⟨hcg6_0, hcg6_1, hcg6_2, hcg6_3, hfg6_0, hfg6_1, hfg6_2, hfg6_3⟩ := cs4 BKg6.out; clear tok6))
   (try clear xHc0)
   (try clear xHc1)
   (try clear xHc2)
   (try clear xHc3)
   (try clear hcD_0 hfD_0)
   (try clear hcD_1 hfD_1)
   (try clear hcD_2 hfD_2)
   (try clear hcD_3 hfD_3)
   (try clear hcdr_4 hfdr_4)
   (try clear hcg6_0 hfg6_0)
   (try clear hcg6_1 hfg6_1)
   (try clear hcg6_2 hfg6_2)
   (try clear hcg6_3 hfg6_3)
   replace BKD := Aside0.mk (blk_far BKD.out (p := ⟨g6, 0, none⟩) (by show _ ≠ _; have := HZ1.out; have := HZ2.out; have := SZ27.out; omega) (.int .i64 x.f0))
   replace BKdr := Aside0.mk (blk_far BKdr.out (p := ⟨g6, 0, none⟩) (by show _ ≠ _; have := HZ1.out; have := HZ2.out; have := SZ27.out; omega) (.int .i64 x.f0))
   replace HHr := Aside0.mk (DiskO.kept HHr.out (kept_set _ ⟨g6, 0, none⟩ (.int .i64 x.f0)) (fun k hk e => by have h1 := (HH.out.2.2.2.2.2.2 k hk).2; have h3 : k = g6 := e; have := HZ1.out; have := HZ2.out; have := SZ27.out; omega))
   replace HFx := Aside0.mk (Kd.F_far HFx.out (p := ⟨g6, 0, none⟩) (fun k hk e => by have h1 := HLB.out k hk; have h4 := HW0.out.size; have h3 : k = g6 := e; have := HZ1.out; have := HZ2.out; have := SZ27.out; omega) (.int .i64 x.f0))
   replace BKg6 := Aside0.mk (blk_put BKg6.out 0 (.int .i64 x.f0) rfl)
   replace HB := Aside0.mk (Wrote.new HB.out (g := g6) (j := 0) (by have := HZ1.out; have := HZ2.out; have := SZ27.out; omega) (.int .i64 x.f0))
   replace BKD := Aside0.mk (blk_far BKD.out (p := ⟨g6, 1, none⟩) (by show _ ≠ _; have := HZ1.out; have := HZ2.out; have := SZ27.out; omega) (.int .i64 x.f1))
   replace BKdr := Aside0.mk (blk_far BKdr.out (p := ⟨g6, 1, none⟩) (by show _ ≠ _; have := HZ1.out; have := HZ2.out; have := SZ27.out; omega) (.int .i64 x.f1))
   replace HHr := Aside0.mk (DiskO.kept HHr.out (kept_set _ ⟨g6, 1, none⟩ (.int .i64 x.f1)) (fun k hk e => by have h1 := (HH.out.2.2.2.2.2.2 k hk).2; have h3 : k = g6 := e; have := HZ1.out; have := HZ2.out; have := SZ27.out; omega))
   replace HFx := Aside0.mk (Kd.F_far HFx.out (p := ⟨g6, 1, none⟩) (fun k hk e => by have h1 := HLB.out k hk; have h4 := HW0.out.size; have h3 : k = g6 := e; have := HZ1.out; have := HZ2.out; have := SZ27.out; omega) (.int .i64 x.f1))
   replace BKg6 := Aside0.mk (blk_put BKg6.out 1 (.int .i64 x.f1) rfl)
   replace HB := Aside0.mk (Wrote.new HB.out (g := g6) (j := 1) (by have := HZ1.out; have := HZ2.out; have := SZ27.out; omega) (.int .i64 x.f1))
   replace BKD := Aside0.mk (blk_far BKD.out (p := ⟨g6, 2, none⟩) (by show _ ≠ _; have := HZ1.out; have := HZ2.out; have := SZ27.out; omega) (.int .i64 x.f2))
   replace BKdr := Aside0.mk (blk_far BKdr.out (p := ⟨g6, 2, none⟩) (by show _ ≠ _; have := HZ1.out; have := HZ2.out; have := SZ27.out; omega) (.int .i64 x.f2))
   replace HHr := Aside0.mk (DiskO.kept HHr.out (kept_set _ ⟨g6, 2, none⟩ (.int .i64 x.f2)) (fun k hk e => by have h1 := (HH.out.2.2.2.2.2.2 k hk).2; have h3 : k = g6 := e; have := HZ1.out; have := HZ2.out; have := SZ27.out; omega))
   replace HFx := Aside0.mk (Kd.F_far HFx.out (p := ⟨g6, 2, none⟩) (fun k hk e => by have h1 := HLB.out k hk; have h4 := HW0.out.size; have h3 : k = g6 := e; have := HZ1.out; have := HZ2.out; have := SZ27.out; omega) (.int .i64 x.f2))
   replace BKg6 := Aside0.mk (blk_put BKg6.out 2 (.int .i64 x.f2) rfl)
   replace HB := Aside0.mk (Wrote.new HB.out (g := g6) (j := 2) (by have := HZ1.out; have := HZ2.out; have := SZ27.out; omega) (.int .i64 x.f2))
   replace BKD := Aside0.mk (blk_far BKD.out (p := ⟨g6, 3, none⟩) (by show _ ≠ _; have := HZ1.out; have := HZ2.out; have := SZ27.out; omega) (.slice A3 x.f3.length c3))
   replace BKdr := Aside0.mk (blk_far BKdr.out (p := ⟨g6, 3, none⟩) (by show _ ≠ _; have := HZ1.out; have := HZ2.out; have := SZ27.out; omega) (.slice A3 x.f3.length c3))
   replace HHr := Aside0.mk (DiskO.kept HHr.out (kept_set _ ⟨g6, 3, none⟩ (.slice A3 x.f3.length c3)) (fun k hk e => by have h1 := (HH.out.2.2.2.2.2.2 k hk).2; have h3 : k = g6 := e; have := HZ1.out; have := HZ2.out; have := SZ27.out; omega))
   replace HFx := Aside0.mk (Kd.F_far HFx.out (p := ⟨g6, 3, none⟩) (fun k hk e => by have h1 := HLB.out k hk; have h4 := HW0.out.size; have h3 : k = g6 := e; have := HZ1.out; have := HZ2.out; have := SZ27.out; omega) (.slice A3 x.f3.length c3))
   replace BKg6 := Aside0.mk (blk_put BKg6.out 3 (.slice A3 x.f3.length c3) rfl)
   replace HB := Aside0.mk (Wrote.new HB.out (g := g6) (j := 3) (by have := HZ1.out; have := HZ2.out; have := SZ27.out; omega) (.slice A3 x.f3.length c3))
   have SZ28 := Aside0.mk (show w27.heap.size ≤ ((((w27.setCell ⟨g6, 0, none⟩ (.int .i64 x.f0)).setCell ⟨g6, 1, none⟩ (.int .i64 x.f1)).setCell ⟨g6, 2, none⟩ (.int .i64 x.f2)).setCell ⟨g6, 3, none⟩ (.slice A3 x.f3.length c3)).heap.size from by simp [World.setCell])
   generalize ((((w27.setCell ⟨g6, 0, none⟩ (.int .i64 x.f0)).setCell ⟨g6, 1, none⟩ (.int .i64 x.f1)).setCell ⟨g6, 2, none⟩ (.int .i64 x.f2)).setCell ⟨g6, 3, none⟩ (.slice A3 x.f3.length c3)) = w28 at HB BKD BKdr HHr HFx BKg6 SZ28 ⊢
   obtain ⟨hcD_0, hcD_1, hcD_2, hcD_3, hfD_0, hfD_1, hfD_2, hfD_3⟩ := cs4 BKD.out
   obtain ⟨-, -, -, -, hcdr_4, -, -, -, -, -, -, hfdr_4, -, -⟩ := cs7 BKdr.out
   obtain ⟨hcg6_0, hcg6_1, hcg6_2, hcg6_3, hfg6_0, hfg6_1, hfg6_2, hfg6_3⟩ := cs4 BKg6.out
   (try clear hcD_0 hfD_0)
   (try clear hcD_1 hfD_1)
   (try clear hcD_2 hfD_2)
   (try clear hcD_3 hfD_3)
   (try clear hcdr_4 hfdr_4)
   (try clear hcg6_0 hfg6_0)
   (try clear hcg6_1 hfg6_1)
   (try clear hcg6_2 hfg6_2)
   (try clear hcg6_3 hfg6_3)
   have hs : Below w28.heap.size w28 (World.drew w28) := below_drew1 (Below.refl _ _)
   have SZ29 := Aside0.mk (show w28.heap.size ≤ (World.drew w28).heap.size from hs.size)
   replace BKD := Aside0.mk (blk_below BKD.out hs)
   replace BKdr := Aside0.mk (blk_below BKdr.out hs)
   replace HHr := Aside0.mk (DiskO.below HHr.out hs)
   replace HFx := Aside0.mk (Kd.F_below HFx.out hs)
   replace BKg6 := Aside0.mk (blk_below BKg6.out hs)
   replace HB := Aside0.mk (Wrote.below HB.out hs)
   clear hs
   refine start_ (n := 12) (S := fun w' => w'.cell? ⟨D, 0, none⟩ = some (.pointer (some ⟨dr, 0, none⟩)) ∧ w'.cell? ⟨D, 1, none⟩ = some (.bool false) ∧ w'.cell? ⟨D, 2, none⟩ = some (.int .i64 cu) ∧ w'.cell? ⟨D, 3, none⟩ = some (.int .i64 wn) ∧ w'.cell? ⟨dr, 4, none⟩ = some (.int .i64 sz) ∧ w'.cell? ⟨g6, 0, none⟩ = some (.int .i64 x.f0) ∧ w'.cell? ⟨g6, 1, none⟩ = some (.int .i64 x.f1) ∧ w'.cell? ⟨g6, 2, none⟩ = some (.int .i64 x.f2) ∧ w'.cell? ⟨g6, 3, none⟩ = some (.slice A3 x.f3.length c3)) (ds := []) #[O,O,O,O,O,O,O,O,O,O,O,O] (by kernel_rfl) rfl rfl ⟨(blk_cell BKD.out 0).trans rfl, (blk_cell BKD.out 1).trans rfl, (blk_cell BKD.out 2).trans rfl, (blk_cell BKD.out 3).trans rfl, (blk_cell BKdr.out 4).trans rfl, (blk_cell BKg6.out 0).trans rfl, (blk_cell BKg6.out 1).trans rfl, (blk_cell BKg6.out 2).trans rfl, (blk_cell BKg6.out 3).trans rfl⟩ (fun hHeld => ?_)
   generalize World.drew w28 = w29 at HB BKD BKdr HHr HFx BKg6 SZ29 hHeld ⊢
   refine pv 0 22 ?_ #[X,O,O,O,O,O,O,O,O,O,O,O] rfl rfl (by kernel_rfl) (fun _ _ _ h => h) ⟨by rfl, ?_⟩ ?_ ?_ ?_; rotate_left; (intro w'; go_simp; with_reducible rfl); rotate_left; (simp only [sP]; rfl)
   refine pv 1 23 ?_ #[X,X,O,O,O,O,O,O,O,O,O,O] rfl rfl (by kernel_rfl) (fun _ _ _ h => h) ⟨by rfl, ?_⟩ ?_ ?_ ?_; rotate_left; (intro w'; go_simp; with_reducible rfl); rotate_left; (simp only [sP]; rfl)
   refine pv 2 24 ?_ #[X,X,X,O,O,O,O,O,O,O,O,O] rfl rfl (by kernel_rfl) (fun _ _ _ h => h) ⟨by rfl, ?_⟩ ?_ ?_ ?_; rotate_left; (intro w'; go_simp; with_reducible rfl); rotate_left; (simp only [sP]; rfl)
   refine pv 4 26 ?_ #[X,X,X,O,X,O,O,O,O,O,O,O] rfl rfl (by kernel_rfl) (fun _ _ _ h => h) ⟨by rfl, ?_⟩ ?_ ?_ ?_; rotate_left; (intro w'; go_simp; with_reducible rfl); rotate_left; (simp only [sP]; rfl)
   refine pv 6 28 ?_ #[X,X,X,O,X,O,X,O,O,O,O,O] rfl rfl (by kernel_rfl) (fun _ _ _ h => h) ⟨by rfl, ?_⟩ ?_ ?_ ?_; rotate_left; (intro w'; go_simp; with_reducible rfl); rotate_left; (simp only [sP]; rfl)
   refine pv 8 30 ?_ #[X,X,X,O,X,O,X,O,X,O,O,O] rfl rfl (by kernel_rfl) (fun _ _ _ h => h) ⟨by rfl, ?_⟩ ?_ ?_ ?_; rotate_left; (intro w'; go_simp; with_reducible rfl); rotate_left; (simp only [sP]; rfl)
   refine tv 3 25 ?_ #[X,X,X,X,X,O,X,O,X,O,O,O] rfl rfl (by kernel_rfl) (fun _ _ _ h => h) ⟨by rfl, ?_⟩ hHeld ?_ ?_ ?_; rotate_left; (rintro w' ⟨s0, s1, s2, s3, s4, s5, s6, s7, s8⟩; go_simp; with_reducible rfl); rotate_left; (simp only [sP]; rfl)
   refine tv 5 27 ?_ #[X,X,X,X,X,X,X,O,X,O,O,O] rfl rfl (by kernel_rfl) (fun _ _ _ h => h) ⟨by rfl, ?_⟩ hHeld ?_ ?_ ?_; rotate_left; (rintro w' ⟨s0, s1, s2, s3, s4, s5, s6, s7, s8⟩; go_simp; with_reducible rfl); rotate_left; (simp only [sP]; rfl)
   refine tv 7 29 ?_ #[X,X,X,X,X,X,X,X,X,O,O,O] rfl rfl (by kernel_rfl) (fun _ _ _ h => h) ⟨by rfl, ?_⟩ hHeld ?_ ?_ ?_; rotate_left; (rintro w' ⟨s0, s1, s2, s3, s4, s5, s6, s7, s8⟩; go_simp; with_reducible rfl); rotate_left; (simp only [sP]; rfl)
   refine tv 9 31 ?_ #[X,X,X,X,X,X,X,X,X,X,O,O] rfl rfl (by kernel_rfl) (fun _ _ _ h => h) ⟨by rfl, ?_⟩ hHeld ?_ ?_ ?_; rotate_left; (rintro w' ⟨s0, s1, s2, s3, s4, s5, s6, s7, s8⟩; go_simp; with_reducible rfl); rotate_left; (simp only [sP]; rfl)
   refine one_ (i := 10) (N := some 32) #[X,X,X,X,X,X,X,X,X,X,X,O] rfl rfl (by kernel_rfl) (by decide) (fun K hK => ?_)
   refine goes_ Try.func46 (by kernel_rfl) rfl #[.pointer (some ⟨dr, 0, none⟩), .int .i64 x.f0, .int .i64 x.f1, .int .i64 x.f2] (by rfl) rfl rfl (by simp only [List.map_toArray, List.map_cons, List.map_nil]; rfl) ?_
   with_reducible refine (at_yes dr a b c d sz As Ag n cs m cg x.f0 x.f1 x.f2 _ (sB BKdr.out) HM.out HDD.out).mono ?_
   rintro e w30 ⟨rfl, hd⟩
   refine ⟨_, rfl, ?_⟩
   have hb := hd.below
   have hs : Below w29.heap.size w29 w30 := below_step Lt8.b hb
   skip
   have SZ30 := Aside0.mk (show w29.heap.size ≤ w30.heap.size from hs.size)
   replace BKD := Aside0.mk (blk_below BKD.out hs)
   replace BKdr := Aside0.mk (blk_below BKdr.out hs)
   replace HHr := Aside0.mk (DiskO.below HHr.out hs)
   replace HFx := Aside0.mk (Kd.F_below HFx.out hs)
   replace BKg6 := Aside0.mk (blk_below BKg6.out hs)
   replace HB := Aside0.mk (Wrote.below HB.out hs)
   clear hs hb
   (try clear hl)
   refine hK.out _ _ ⟨(blk_cell BKD.out 0).trans rfl, (blk_cell BKD.out 1).trans rfl, (blk_cell BKD.out 2).trans rfl, (blk_cell BKD.out 3).trans rfl, (blk_cell BKdr.out 4).trans rfl, (blk_cell BKg6.out 0).trans rfl, (blk_cell BKg6.out 1).trans rfl, (blk_cell BKg6.out 2).trans rfl, (blk_cell BKg6.out 3).trans rfl⟩ (fun hHeld => ?_)
   clear hK K
   refine norm_ (a' := ?_) ?_ ?_
   rotate_left
   ·
    show Act.put _ (some 32) _ = _
    simp only [sP]
    rfl
   refine pv 11 7 ?_ #[X,X,X,X,X,X,X,X,X,X,X,X] rfl rfl (by kernel_rfl) (fun _ _ _ h => h) ⟨by rfl, ?_⟩ ?_ ?_ ?_; rotate_left; (intro w'; go_simp; with_reducible rfl); rotate_left; (simp only [sP]; rfl)
   refine done_ (by kernel_rfl) ?_
   obtain ⟨hcD_0, hcD_1, hcD_2, hcD_3, hfD_0, hfD_1, hfD_2, hfD_3⟩ := cs4 BKD.out
   obtain ⟨-, -, -, -, hcdr_4, -, -, -, -, -, -, hfdr_4, -, -⟩ := cs7 BKdr.out
   obtain ⟨hcg6_0, hcg6_1, hcg6_2, hcg6_3, hfg6_0, hfg6_1, hfg6_2, hfg6_3⟩ := cs4 BKg6.out
   go_wp2_with (fail)
   (try clear hcD_0 hfD_0)
   (try clear hcD_1 hfD_1)
   (try clear hcD_2 hfD_2)
   (try clear hcD_3 hfD_3)
   (try clear hcdr_4 hfdr_4)
   (try clear hcg6_0 hfg6_0)
   (try clear hcg6_1 hfg6_1)
   (try clear hcg6_2 hfg6_2)
   (try clear hcg6_3 hfg6_3)
   have hs : Below w30.heap.size w30 (World.drew w30) := below_drew1 (Below.refl _ _)
   have SZ31 := Aside0.mk (show w30.heap.size ≤ (World.drew w30).heap.size from hs.size)
   replace BKD := Aside0.mk (blk_below BKD.out hs)
   replace BKdr := Aside0.mk (blk_below BKdr.out hs)
   replace HHr := Aside0.mk (DiskO.below HHr.out hs)
   replace HFx := Aside0.mk (Kd.F_below HFx.out hs)
   replace BKg6 := Aside0.mk (blk_below BKg6.out hs)
   replace HB := Aside0.mk (Wrote.below HB.out hs)
   clear hs
   refine start_ (n := 15) (S := fun w' => w'.cell? ⟨D, 0, none⟩ = some (.pointer (some ⟨dr, 0, none⟩)) ∧ w'.cell? ⟨D, 1, none⟩ = some (.bool false) ∧ w'.cell? ⟨D, 2, none⟩ = some (.int .i64 cu) ∧ w'.cell? ⟨D, 3, none⟩ = some (.int .i64 wn) ∧ w'.cell? ⟨dr, 4, none⟩ = some (.int .i64 sz) ∧ w'.cell? ⟨g6, 0, none⟩ = some (.int .i64 x.f0) ∧ w'.cell? ⟨g6, 1, none⟩ = some (.int .i64 x.f1) ∧ w'.cell? ⟨g6, 2, none⟩ = some (.int .i64 x.f2) ∧ w'.cell? ⟨g6, 3, none⟩ = some (.slice A3 x.f3.length c3)) (ds := []) #[O,O,O,O,O,O,O,O,O,O,O,O,O,O,O] (by kernel_rfl) rfl rfl ⟨(blk_cell BKD.out 0).trans rfl, (blk_cell BKD.out 1).trans rfl, (blk_cell BKD.out 2).trans rfl, (blk_cell BKD.out 3).trans rfl, (blk_cell BKdr.out 4).trans rfl, (blk_cell BKg6.out 0).trans rfl, (blk_cell BKg6.out 1).trans rfl, (blk_cell BKg6.out 2).trans rfl, (blk_cell BKg6.out 3).trans rfl⟩ (fun hHeld => ?_)
   generalize World.drew w30 = w31 at HB BKD BKdr HHr HFx BKg6 SZ31 hHeld ⊢
   refine pv 0 33 ?_ #[X,O,O,O,O,O,O,O,O,O,O,O,O,O,O] rfl rfl (by kernel_rfl) (fun _ _ _ h => h) ⟨by rfl, ?_⟩ ?_ ?_ ?_; rotate_left; (intro w'; go_simp; with_reducible rfl); rotate_left; (simp only [sP]; rfl)
   refine pv 1 34 ?_ #[X,X,O,O,O,O,O,O,O,O,O,O,O,O,O] rfl rfl (by kernel_rfl) (fun _ _ _ h => h) ⟨by rfl, ?_⟩ ?_ ?_ ?_; rotate_left; (intro w'; go_simp; with_reducible rfl); rotate_left; (simp only [sP]; rfl)
   refine pv 2 35 ?_ #[X,X,X,O,O,O,O,O,O,O,O,O,O,O,O] rfl rfl (by kernel_rfl) (fun _ _ _ h => h) ⟨by rfl, ?_⟩ ?_ ?_ ?_; rotate_left; (intro w'; go_simp; with_reducible rfl); rotate_left; (simp only [sP]; rfl)
   refine pv 3 36 ?_ #[X,X,X,X,O,O,O,O,O,O,O,O,O,O,O] rfl rfl (by kernel_rfl) (fun _ _ _ h => h) ⟨by rfl, ?_⟩ ?_ ?_ ?_; rotate_left; (intro w'; go_simp; with_reducible rfl); rotate_left; (simp only [sP]; rfl)
   refine pv 6 39 ?_ #[X,X,X,X,O,O,X,O,O,O,O,O,O,O,O] rfl rfl (by kernel_rfl) (fun _ _ _ h => h) ⟨by rfl, ?_⟩ ?_ ?_ ?_; rotate_left; (intro w'; go_simp; with_reducible rfl); rotate_left; (simp only [sP]; rfl)
   refine pv 7 40 ?_ #[X,X,X,X,O,O,X,X,O,O,O,O,O,O,O] rfl rfl (by kernel_rfl) (fun _ _ _ h => h) ⟨by rfl, ?_⟩ ?_ ?_ ?_; rotate_left; (intro w'; go_simp; with_reducible rfl); rotate_left; (simp only [sP]; rfl)
   refine pv 8 41 ?_ #[X,X,X,X,O,O,X,X,X,O,O,O,O,O,O] rfl rfl (by kernel_rfl) (fun _ _ _ h => h) ⟨by rfl, ?_⟩ ?_ ?_ ?_; rotate_left; (intro w'; go_simp; with_reducible rfl); rotate_left; (simp only [sP]; rfl)
   refine tv 4 37 ?_ #[X,X,X,X,X,O,X,X,X,O,O,O,O,O,O] rfl rfl (by kernel_rfl) (fun _ _ _ h => h) ⟨by rfl, ?_⟩ hHeld ?_ ?_ ?_; rotate_left; (rintro w' ⟨s0, s1, s2, s3, s4, s5, s6, s7, s8⟩; go_simp; with_reducible rfl); rotate_left; (simp only [sP]; rfl)
   refine pv 5 38 ?_ #[X,X,X,X,X,X,X,X,X,O,O,O,O,O,O] rfl rfl (by kernel_rfl) (fun _ _ _ h => h) ⟨by rfl, ?_⟩ ?_ ?_ ?_; rotate_left; (intro w'; go_simp; with_reducible rfl); rotate_left; (simp only [sP]; rfl)
   refine tv 9 42 ?_ #[X,X,X,X,X,X,X,X,X,X,O,O,O,O,O] rfl rfl (by kernel_rfl) (fun _ _ _ h => h) ⟨by rfl, ?_⟩ hHeld ?_ ?_ ?_; rotate_left; (rintro w' ⟨s0, s1, s2, s3, s4, s5, s6, s7, s8⟩; go_simp; with_reducible rfl); rotate_left; (simp only [sP]; rfl)
   refine pv 10 43 ?_ #[X,X,X,X,X,X,X,X,X,X,X,O,O,O,O] rfl rfl (by kernel_rfl) (fun _ _ _ h => h) ⟨by rfl, ?_⟩ ?_ ?_ ?_; rotate_left; (intro w'; go_simp; with_reducible rfl); rotate_left; (simp only [sP]; rfl)
   refine pv 11 44 ?_ #[X,X,X,X,X,X,X,X,X,X,X,X,O,O,O] rfl rfl (by kernel_rfl) (fun _ _ _ h => h) ⟨by rfl, ?_⟩ ?_ ?_ ?_; rotate_left; (intro w'; go_simp; with_reducible rfl); rotate_left; (simp only [sP]; rfl)
   refine tv 12 45 ?_ #[X,X,X,X,X,X,X,X,X,X,X,X,X,O,O] rfl rfl (by kernel_rfl) (fun _ _ _ h => h) ⟨by rfl, ?_⟩ hHeld ?_ ?_ ?_; rotate_left; (rintro w' ⟨s0, s1, s2, s3, s4, s5, s6, s7, s8⟩; go_simp; with_reducible rfl); rotate_left; (simp only [sP]; rfl)
   refine pv 13 46 ?_ #[X,X,X,X,X,X,X,X,X,X,X,X,X,X,O] rfl rfl (by kernel_rfl) (fun _ _ _ h => h) ⟨by rfl, ?_⟩ ?_ ?_ ?_; rotate_left; (intro w'; go_simp; with_reducible rfl); rotate_left; (simp only [sP]; rfl)
   refine pv 14 47 ?_ #[X,X,X,X,X,X,X,X,X,X,X,X,X,X,X] rfl rfl (by kernel_rfl) (fun _ _ _ h => h) ⟨by rfl, ?_⟩ ?_ ?_ ?_; rotate_left; (intro w'; go_simp; with_reducible rfl); rotate_left; (simp only [sP]; rfl)
   refine done_ (by kernel_rfl) ?_
   obtain ⟨hcD_0, hcD_1, hcD_2, hcD_3, hfD_0, hfD_1, hfD_2, hfD_3⟩ := cs4 BKD.out
   obtain ⟨-, -, -, -, hcdr_4, -, -, -, -, -, -, hfdr_4, -, -⟩ := cs7 BKdr.out
   obtain ⟨hcg6_0, hcg6_1, hcg6_2, hcg6_3, hfg6_0, hfg6_1, hfg6_2, hfg6_3⟩ := cs4 BKg6.out
   go_wp2_with (fail)
   (try clear hcD_0 hfD_0)
   (try clear hcD_1 hfD_1)
   (try clear hcD_2 hfD_2)
   (try clear hcD_3 hfD_3)
   (try clear hcdr_4 hfdr_4)
   (try clear hcg6_0 hfg6_0)
   (try clear hcg6_1 hfg6_1)
   (try clear hcg6_2 hfg6_2)
   (try clear hcg6_3 hfg6_3)
   have hs : Below w31.heap.size w31 (World.drew w31) := below_drew1 (Below.refl _ _)
   have SZ32 := Aside0.mk (show w31.heap.size ≤ (World.drew w31).heap.size from hs.size)
   replace BKD := Aside0.mk (blk_below BKD.out hs)
   replace BKdr := Aside0.mk (blk_below BKdr.out hs)
   replace HHr := Aside0.mk (DiskO.below HHr.out hs)
   replace HFx := Aside0.mk (Kd.F_below HFx.out hs)
   replace BKg6 := Aside0.mk (blk_below BKg6.out hs)
   replace HB := Aside0.mk (Wrote.below HB.out hs)
   clear hs
   refine start_ (n := 7) (S := fun w' => w'.cell? ⟨D, 0, none⟩ = some (.pointer (some ⟨dr, 0, none⟩)) ∧ w'.cell? ⟨D, 1, none⟩ = some (.bool false) ∧ w'.cell? ⟨D, 2, none⟩ = some (.int .i64 cu) ∧ w'.cell? ⟨D, 3, none⟩ = some (.int .i64 wn) ∧ w'.cell? ⟨dr, 4, none⟩ = some (.int .i64 sz) ∧ w'.cell? ⟨g6, 0, none⟩ = some (.int .i64 x.f0) ∧ w'.cell? ⟨g6, 1, none⟩ = some (.int .i64 x.f1) ∧ w'.cell? ⟨g6, 2, none⟩ = some (.int .i64 x.f2) ∧ w'.cell? ⟨g6, 3, none⟩ = some (.slice A3 x.f3.length c3)) (ds := [5]) #[O,O,O,O,O,O,O] (by kernel_rfl) rfl rfl ⟨(blk_cell BKD.out 0).trans rfl, (blk_cell BKD.out 1).trans rfl, (blk_cell BKD.out 2).trans rfl, (blk_cell BKD.out 3).trans rfl, (blk_cell BKdr.out 4).trans rfl, (blk_cell BKg6.out 0).trans rfl, (blk_cell BKg6.out 1).trans rfl, (blk_cell BKg6.out 2).trans rfl, (blk_cell BKg6.out 3).trans rfl⟩ (fun hHeld => ?_)
   generalize World.drew w31 = w32 at HB BKD BKdr HHr HFx BKg6 SZ32 hHeld ⊢
   refine pv 0 71 ?_ #[X,O,O,O,O,O,O] rfl rfl (by kernel_rfl) (fun _ _ _ h => h) ⟨by rfl, ?_⟩ ?_ ?_ ?_; rotate_left; (intro w'; go_simp; with_reducible rfl); rotate_left; (simp only [sP]; rfl)
   refine pv 1 72 ?_ #[X,X,O,O,O,O,O] rfl rfl (by kernel_rfl) (fun _ _ _ h => h) ⟨by rfl, ?_⟩ ?_ ?_ ?_; rotate_left; (intro w'; go_simp; with_reducible rfl); rotate_left; (simp only [sP]; rfl)
   refine pv 2 73 ?_ #[X,X,X,O,O,O,O] rfl rfl (by kernel_rfl) (fun _ _ _ h => h) ⟨by rfl, ?_⟩ ?_ ?_ ?_; rotate_left; (intro w'; go_simp; with_reducible rfl); rotate_left; (simp only [sP]; rfl)
   refine tv 3 74 ?_ #[X,X,X,X,O,O,O] rfl rfl (by kernel_rfl) (fun _ _ _ h => h) ⟨by rfl, ?_⟩ hHeld ?_ ?_ ?_; rotate_left; (rintro w' ⟨s0, s1, s2, s3, s4, s5, s6, s7, s8⟩; go_simp; with_reducible rfl); rotate_left; (simp only [sP]; rfl)
   refine tv 4 75 ?_ #[X,X,X,X,X,O,O] rfl rfl (by kernel_rfl) (fun _ _ _ h => h) ⟨by rfl, ?_⟩ hHeld ?_ ?_ ?_; rotate_left; (rintro w' ⟨s0, s1, s2, s3, s4, s5, s6, s7, s8⟩; go_simp; with_reducible rfl); rotate_left; (simp only [sP]; rfl)
   refine last_ (i := 5) (N := some 76) #[X,X,X,X,X,X,O] rfl rfl (by kernel_rfl) (by decide) (fun K hK => ?_)
   refine goes_ Try.func47 (by kernel_rfl) rfl #[.pointer (some ⟨dr, 0, none⟩), .agg #[.int .i64 x.f0, .int .i64 x.f1, .int .i64 x.f2, .slice A3 x.f3.length c3]] (by rfl) rfl rfl (by simp only [List.map_toArray, List.map_cons, List.map_nil]; rfl) ?_
   with_reducible refine (hold_any D dr As Ag n cs m cg a b c d sz sl gone false (cu) wn base (Gr ok w wr) x.f0 x.f1 x.f2 A3 x.f3 c3 i _ ?s1 HM.out HDD.out HAT.out HI.out C3.out ALE.out ?s2 (by have := C3.out; have := HSZ.out; omega)).mono ?_
   (case s1 => exact DiskO.below HHr.out Lt8.b)
   (case s2 => exact Kd.C_below (Kd.F_now HFx.out) Lt8.b)
   rintro e wh ⟨rfl, hD2, hW2⟩
   refine ⟨_, rfl, ?_⟩
   have HB2 := Aside0.mk (HW0.out.thenG (HB.out.then_ hW2 (fun _ hk => .inl hk)))
   have HH2 := Aside0.mk hD2
   clear hD2 hW2
   refine hK.out _ _ ?_
   clear hK K
   refine norm_ (a' := ?_) ?_ ?_
   rotate_left
   ·
    show Act.put _ (some 76) _ = _
    simp only [sP]
    rfl
   refine pv 6 8 ?_ #[X,X,X,X,X,X,X] rfl rfl (by kernel_rfl) (fun _ _ _ h => h) ⟨by rfl, ?_⟩ ?_ ?_ ?_; rotate_left; (intro w'; go_simp; with_reducible rfl); rotate_left; (simp only [sP]; rfl)
   refine done_ (by kernel_rfl) ?_
   obtain ⟨hcD_0, hcD_1, hcD_2, hcD_3, hfD_0, hfD_1, hfD_2, hfD_3⟩ := cs4 BKD.out
   obtain ⟨-, -, -, -, hcdr_4, -, -, -, -, -, -, hfdr_4, -, -⟩ := cs7 BKdr.out
   obtain ⟨hcg6_0, hcg6_1, hcg6_2, hcg6_3, hfg6_0, hfg6_1, hfg6_2, hfg6_3⟩ := cs4 BKg6.out
   (try clear hcD_0 hfD_0)
   (try clear hcD_1 hfD_1)
   (try clear hcD_2 hfD_2)
   (try clear hcD_3 hfD_3)
   (try clear hcdr_4 hfdr_4)
   (try clear hcg6_0 hfg6_0)
   (try clear hcg6_1 hfg6_1)
   (try clear hcg6_2 hfg6_2)
   (try clear hcg6_3 hfg6_3)
   clear HB HHr BKD
   have HB := HB2
   have HHr := HH2
   have BKD := Aside0.mk HH2.out.1
   clear HB2 HH2
   have SZh := Aside0.mk (show D < wh.heap.size from blk_lt BKD.out)
   obtain ⟨hcD_0, hcD_1, hcD_2, hcD_3, hfD_0, hfD_1, hfD_2, hfD_3⟩ := cs4 BKD.out
   go_wp2_with (fail)
   (try clear hcD_0 hfD_0)
   (try clear hcD_1 hfD_1)
   (try clear hcD_2 hfD_2)
   (try clear hcD_3 hfD_3)
   replace BKD := Aside0.mk (blk_put BKD.out 3 (.int .i64 (wrap64 (wn + 1))) rfl)
   replace HHr := Aside0.mk (HHr.out.setD (off' := false) (cut' := (cu)) (wr' := (wrap64 (wn + 1))) 3 (.int .i64 (wrap64 (wn + 1))) rfl)
   replace HB := Aside0.mk (Wrote.cell HB.out (g := D) HH0.out.2.2.2.2.1 (HH0.out.base_ D HH0.out.2.2.2.2.1) (j := 3) (.int .i64 (wrap64 (wn + 1))))
   have SZ33 := Aside0.mk (show wh.heap.size ≤ (wh.setCell ⟨D, 3, none⟩ (.int .i64 (wrap64 (wn + 1)))).heap.size from by simp [World.setCell])
   generalize (wh.setCell ⟨D, 3, none⟩ (.int .i64 (wrap64 (wn + 1)))) = w33 at HB BKD HHr SZ33 ⊢
   obtain ⟨hcD_0, hcD_1, hcD_2, hcD_3, hfD_0, hfD_1, hfD_2, hfD_3⟩ := cs4 BKD.out
   have hwp := HP.out
   have hax := AX.out
   have hlk := HK.out
   have hln := HLN.out
   have hw1 := HWR.out
   have ew : wrap64 (wn + 1) = wn + 1 := by
    have h1 : 0 ≤ wn := hwp.2.2.1
    have h2 : wn ≤ wt + k := hwp.2.2.2.1
    unfold wrap64
    omega
   skip
   have h1 : put1 m d sz x ⟨sl, false, cu, wn⟩ = (⟨sl.set i x.f3, false, cu, wn + 1⟩, 0) := by
    unfold put1
    rw [if_neg (by simp), if_neg (fun h => h.elim (fun h => by have := C2.out; omega) (fun h => h C3.out)), if_neg C4.out, HAT.out, Int.toNat_natCast]
    rw [if_neg (show ¬ (0 < cu) by have := C5.out; omega)]
   have hR : putsL m d sz (l.drop (k + 1)) ⟨sl.set i x.f3, false, cu, wn + 1⟩ = putsL m d sz l ⟨slots, off, cut, wt⟩ := by
    rw [← hwp.1, HDR.out, putsL_go (by rw [h1]), h1]
   rw [ew] at HHr
   go_roundg (gk - 1)
   case measure => omega
   case rel =>
    refine ⟨k + 1, ⟨sl.set i x.f3, false, cu, wn + 1⟩, by rw [show wrap64 ((k : Int) + 1) = ((k + 1 : Nat) : Int) by unfold wrap64; omega], Aside0.mk ⟨by omega, by omega⟩, Aside0.mk (HHr.out.gr HW0.out.1 ?_ HH0.out.base_), HB, Aside0.mk ⟨hR, by rw [← hwp.2.1]; exact List.length_set, ?_, ?_, ?_, ?_⟩⟩
    ·
     rintro q ⟨_, hq | hq⟩
     ·
      exact hq.2
     ·
      exact .inr (by have h7 := HW0.out.size; have := HZ1.out; have := HZ2.out; have := SZ27.out; have := SZ28.out; have := SZ29.out; have := SZ30.out; have := SZ31.out; have := SZ32.out; omega)
    ·
     have h2 : 0 ≤ wn := hwp.2.2.1
     show 0 ≤ wn + 1
     omega
    ·
     have h2 : wn ≤ wt + k := hwp.2.2.2.1
     show wn + 1 ≤ wt + ((k + 1 : Nat) : Int)
     omega
    ·
     show -1 ≤ cu
     have h2 : -1 ≤ cu := hwp.2.2.2.2.1
     omega
    ·
     show cu ≤ 9223372036854775807
     have h2 : cu ≤ 9223372036854775807 := hwp.2.2.2.2.2
     omega
  ·
   have b1 : decide ((k : Int) < (l.length : Int)) = false := decide_eq_false (by omega)
   have b2 : decide (k < l.length) = false := decide_eq_false hlt
   have e : k = l.length := by
    have := AX.out
    omega
   have hR : putsL m d sz l ⟨slots, off, cut, wt⟩ = (⟨sl, of, cu, wn⟩, 0) := by
    rw [← HP.out.1, e, List.drop_length]
    rfl
   clear hlt
   go_wp2
   go_ret
   rw [hR]
   exact ⟨rfl, HH.out, HW0.out⟩
end Go.Proofs.Ytemmhgfjfbdggaa.P
