import Derived.Test.YtcnmocbiekfpbaaP0Brief
import Derived.Test.YtcnmocbiekfpbaaPx0
import Derived.Test.YtcnmocbiekfpbaaPx5
import Derived.Test.YtcnmocbiekfpbaaPx6
import Derived.Test.YtcnmocbiekfpbaaPx7
import Derived.Test.YtcnmocbiekfpbaaPx8
import Derived.Test.YtcnmocbiekfpbaaPx17
import Derived.Test.YtcnmocbiekfpbaaPx19
import Derived.Test.YtcnmocbiekfpbaaPx20
import Derived.Test.YtcnmocbiekfpbaaPx22
import Derived.Test.YtcnmocbiekfpbaaPx23
import Derived.Test.YtcnmocbiekfpbaaPx24
import Derived.Test.YtcnmocbiekfpbaaPx25
import Derived.Test.YtcnmocbiekfpbaaP9P
import Derived.Test.YtcnmocbiekfpbaaWApart
import Derived.Test.YtcnmocbiekfpbaaWKept
import Derived.Test.YtcnmocbiekfpbaaWFoot
import Derived.Test.YtcnmocbiekfpbaaWShare
namespace Go.Proofs.Ytcnmocbiekfpbaa.P
open Go.RowKit Go.Proofs.YtcnmocbiekfpbaaW.PrintWords Go.Proofs.YtcnmocbiekfpbaaW.PrintLast Go.Proofs.YtcnmocbiekfpbaaW.PrintMore
attribute [local go_sem] max2_int min2_int max_two min_two max_three min_three max_four min_four
set_option linter.unusedVariables false
set_option linter.unusedSimpArgs false
/-! ### Words for a walk that writes over what was made -/
theorem S_iv {α : Type} {d : Kd α} {e : Nat} {W w1 : World} {ok : Nat → Prop} {v : Value} {xs : List α} (h : Kd.S d e w1 W.heap.size ok v xs) {base lo : Nat} (hb : base ≤ W.heap.size) (hl : lo ≤ W.heap.size) : Kd.S d e w1 base (Iv lo w1.heap.size) v xs :=
  Kd.S_mono (Kd.S_lower (Kd.S_bound h) hb) (fun _ hk => ⟨Nat.le_trans hl hk.2.1, hk.2.2.1⟩)
/-- What came in ahead of all, or was made between lo and hi. -/
def Ivw (b lo hi k : Nat) : Prop := k < b ∨ Iv lo hi k
theorem Ivw_ne {b lo hi g : Nat} (h : b ≤ g ∧ (g < lo ∨ hi ≤ g)) : ∀ k, Ivw b lo hi k → k ≠ g := by
  rintro k (hk | hk) rfl
  · omega
  · unfold Iv at hk
    omega
theorem Ivw_apart {b lo hi g g2 : Nat} (h : (b ≤ g) ∧ (g2 ≤ lo ∨ hi ≤ g)) : ∀ k, Ivw b lo hi k → ¬ Iv g g2 k := by
  rintro k (hk | hk) h2
  · unfold Iv at h2
    omega
  · unfold Iv at hk h2
    omega
theorem N_ivw {α : Type} {d : Kd α} {e base b lo : Nat} {w1 : World} {ok : Nat → Prop} {v : Value} {xs : List α} (h : Kd.N d e w1 base ok v xs) (ho : ∀ k, ok k → k < b ∨ lo ≤ k) : Kd.N d e w1 base (Ivw b lo w1.heap.size) v xs :=
  Kd.N_mono (Kd.N_bound h) (fun k hk => (ho k hk.1).imp_right (fun h => ⟨h, hk.2⟩))
theorem V_came {w W : World} {base c : Nat} {A : Option Addr} {xs : List Int} (h : Kd.C (Kd.int .u8) w A xs.length xs) (hl : xs.length ≤ c) (hb : Below w.heap.size w W) : Kd.V (Kd.int .u8) 5 W base (fun k => k < w.heap.size) (.slice A xs.length c) xs := by
  refine Kd.V_mk hl (fun W' hW => ?_)
  have hs := hb.size
  have hm : ∀ k, k < w.heap.size → W'.heap[k]? = w.heap[k]? := fun k hk => (hW k hk (by omega)).trans (hb.block k hk)
  refine Kd.C_kept_came (S := fun _ => False) (Kd.heap_int .u8) h (Below.refl _ _) (fun _ h => h.elim) W' ⟨?_, fun i hi _ => hm i hi⟩
  by_cases h0 : w.heap.size = 0
  · omega
  · have h1 := hm (w.heap.size - 1) (by omega)
    rw [Array.getElem?_eq_getElem (show w.heap.size - 1 < w.heap.size by omega)] at h1
    have := (Array.getElem?_eq_some_iff.mp h1).1
    omega
theorem S_first {w : World} {base g n cap lo hi : Nat} {l : List S35} (h : Kd.S k35 35 w base (Iv lo hi) (.slice (some ⟨g, 0, none⟩) n cap) l) (hl : 0 < l.length) :
    ∃ (B : Option Addr) (e : Nat), w.cell? ⟨g, 0, none⟩ = some (.int .i64 (rd_T35 l 0).f0) ∧ w.cell? ⟨g, 1, none⟩ = some (.int .i64 (rd_T35 l 0).f1) ∧ w.cell? ⟨g, 2, none⟩ = some (.int .i64 (rd_T35 l 0).f2) ∧ w.cell? ⟨g, 3, none⟩ = some (.slice B (rd_T35 l 0).f3.length e) ∧ Kd.R (Kd.int .u8) 5 w base (Iv lo hi) (.slice B (rd_T35 l 0).f3.length e) (rd_T35 l 0).f3 := by
  have hn := (Kd.S_reads' h).1
  obtain ⟨oki, c, hcl, hM, hcc, _, hok, _⟩ := Kd.S_elem h z35 0 (by omega) (by omega)
  obtain ⟨v3, rfl, hR⟩ := k35_openM hM
  obtain ⟨B, e, rfl⟩ := Kd.R_slice hR
  exact ⟨B, e, hcc 0 _ rfl, hcc 1 _ rfl, hcc 2 _ rfl, hcc 3 _ rfl, Kd.R_mono hR (fun k hk => (hok k hk).1)⟩
set_option maxHeartbeats 8000000 in
set_option maxRecDepth 100000 in
theorem ImageWrites_walk (k : Nat) (a b c d : Int) (Am : Option Addr) (cm : Nat) (sl : List (List Int)) (Al : Option Addr) (cl : Nat) (l : List S35) (n drv : Int) (w : World) (hCm : Kd.C (Kd.slice 5 (Kd.int .u8)) w Am sl.length sl) (hcm : sl.length ≤ cm) (hL : Kd.C k35 w Al l.length l) (hcl : l.length ≤ cl) (z : S35) (p0 p1 p2 p3 : Int) (ps : List (List Int)) (e1 : Int) (q0 q1 q2 q3 : Int) (qs : List (List Int)) (e2 : Int) (u0 u1 u2 u3 : Int) (us : List (List Int)) (e3 : Int) (ck : Int) (hz : rd_T35 l 0 = z) (hmu : twoslotlaw09_much.f a b c d sl = some false) (hhe : twoslotlaw09_heavy.f k l = some false) (htw : twoslotref09_Twin.f k a b c d sl = some (a, b, c, d, sl)) (htp : twoslotref09_TwinPuts.f k l = some l) (hpu : image_Put.f k a b c d sl z.f0 z.f1 z.f2 z.f3 = some (p0, p1, p2, p3, ps, e1)) (haf : image_After.f k a b c d sl l n = some (q0, q1, q2, q3, qs, e2)) (hwi : image_Wiped.f k a b c d sl drv = some (u0, u1, u2, u3, us, e3)) (rpu : twoslotref09_Put.f k a b c d sl z.f0 z.f1 z.f2 z.f3 = some (p0, p1, p2, p3, ps, e1)) (raf : twoslotref09_After.f k a b c d sl l n = some (q0, q1, q2, q3, qs, e2)) (rwi : twoslotref09_Wiped.f k a b c d sl drv = some (u0, u1, u2, u3, us, e3)) (hs1 : twoslotref09_Same.f k p0 p1 p2 p3 ps p0 p1 p2 p3 ps = some true) (hs2 : twoslotref09_Same.f k q0 q1 q2 q3 qs q0 q1 q2 q3 qs = some true) (hs3 : twoslotref09_Same.f k u0 u1 u2 u3 us u0 u1 u2 u3 us = some true) (hck : image_Check.f k a b c d sl = some ck) (rck : twoslotref09_Check.f k a b c d sl = some ck) (hs4 : twoslotref09_Same.f k a b c d sl a b c d sl = some true) (hs5 : twoslotref09_SamePuts.f k l l = some true) (sc1 : ∀ x ∈ ps, twoslotlaw09_scratch.f k x = some ()) (sc2 : ∀ x ∈ qs, twoslotlaw09_scratch.f k x = some ()) (sc3 : ∀ x ∈ us, twoslotlaw09_scratch.f k x = some ()) (ln1 : ps.length ≤ 1000000) (ln2 : qs.length ≤ 1000000) (ln3 : us.length ≤ 1000000) : Calls Try.prog 4 #[.agg #[.int .i64 a, .int .i64 b, .int .i64 c, .int .i64 d, .slice Am sl.length cm], .slice Al l.length cl, .int .i64 n, .int .i64 drv] w fun e w' => e = .returned (.bool true) ∧ Below w.heap.size w w' := by
  have hu27 := Try.underlying27
  have hu24 := Try.underlying24
  have hu35 := Try.underlying35
  have HB := Aside0.mk (Below.refl w.heap.size w)
  have HCm := Aside0.mk hCm
  have HCM := Aside0.mk hcm
  have HCl := Aside0.mk hL
  have HCL := Aside0.mk hcl
  have HMU := Aside0.mk hmu
  have HHE := Aside0.mk hhe
  have HTW := Aside0.mk htw
  have HTP := Aside0.mk htp
  have HPU := Aside0.mk hpu
  have HAF := Aside0.mk haf
  have HWI := Aside0.mk hwi
  have RPU := Aside0.mk rpu
  have RAF := Aside0.mk raf
  have RWI := Aside0.mk rwi
  have HS1 := Aside0.mk hs1
  have HS2 := Aside0.mk hs2
  have HS3 := Aside0.mk hs3
  have HCK := Aside0.mk hck
  have RCK := Aside0.mk rck
  have HS4 := Aside0.mk hs4
  have HS5 := Aside0.mk hs5
  have SC1 := Aside0.mk sc1
  have SC2 := Aside0.mk sc2
  have SC3 := Aside0.mk sc3
  have LN1 := Aside0.mk ln1
  have LN2 := Aside0.mk ln2
  have LN3 := Aside0.mk ln3
  clear hCm hcm hL hcl hmu hhe htw htp hpu haf hwi rpu raf rwi hs1 hs2 hs3 hck rck hs4 hs5 sc1 sc2 sc3 ln1 ln2 ln3
  have HZ := Aside0.mk hz
  clear hz
  go_enter Try.func4, Try.ntmps4
  have tok1 : True := trivial
  go_wp2_with (first | (have _ := tok1; (with_reducible refine gate_dst (N := 4) rfl ?_); refine box_event ?hg (N := 4) ?hd (cs := #[.int .i64 a, .int .i64 b, .int .i64 c, .int .i64 d, .slice Am sl.length cm]) (t := 27) ?hr ?_; (case hd => rfl); (case hg => rfl); (case hr => first | (go_simp; done) | (go_simp; rfl)); intro g4 hg w1 hbox hb; have hs : Below w.heap.size w w1 := below_step (by repeat (first | exact Below.refl _ _ | apply below_alloc | apply pw_below_drewN | apply below_drew1)) hb; have SZ1 := Aside0.mk (show w.heap.size ≤ g4 ∧ g4 < w1.heap.size from ⟨by rw [hg]; exact (below_size (by repeat (first | exact Below.refl _ _ | apply below_alloc | apply pw_below_drewN | apply below_drew1))), blk_lt hbox⟩); replace HB := hbs HB hs; have q0_ := SZ1.out; clear q0_; have BKg4 := Aside0.mk hbox; clear hb hbox hg hs; obtain ⟨⟨hcg4_0, hfg4_0⟩, ⟨hcg4_1, hfg4_1⟩, ⟨hcg4_2, hfg4_2⟩, ⟨hcg4_3, hfg4_3⟩, ⟨hcg4_4, hfg4_4⟩⟩ := cells5 BKg4.out; clear tok1; have tok2 : True := trivial) | (have _ := tok2; go_at_call 9; (with_reducible refine (twoslotlaw09_alive.calls true _ rfl).mono ?_); rintro e w2 ⟨rfl, hb⟩; (try clear hcg4_0 hfg4_0 hcg4_1 hfg4_1 hcg4_2 hfg4_2 hcg4_3 hfg4_3 hcg4_4 hfg4_4); have hs : Below w1.heap.size w1 w2 := below_step (by repeat (first | exact Below.refl _ _ | apply below_alloc | apply pw_below_drewN | apply below_drew1)) hb; have hl : w1.heap.size ≤ _ := below_size (w := w1) (by repeat (first | exact Below.refl _ _ | apply below_alloc | apply pw_below_drewN | apply below_drew1)); have SZ2 := Aside0.mk (show w1.heap.size ≤ w2.heap.size from hs.size); replace BKg4 := bb BKg4 hs; replace HB := hbs HB hs; clear hb hs; (try clear hl); obtain ⟨⟨hcg4_0, hfg4_0⟩, ⟨hcg4_1, hfg4_1⟩, ⟨hcg4_2, hfg4_2⟩, ⟨hcg4_3, hfg4_3⟩, ⟨hcg4_4, hfg4_4⟩⟩ := cells5 BKg4.out; clear tok2; have tok3 : True := trivial) | (have _ := tok3; go_at_call 18; (with_reducible refine (twoslotlaw09_much.calls a b c d Am cm sl false _ ?s1 HCM.out HMU.out).mono ?_); (case s1 => exact Kd.C_below HCm.out (by repeat (first | exact HB.out | apply below_alloc | apply pw_below_drewN | apply below_drew1))); rintro e w3 ⟨rfl, hb⟩; (try clear hcg4_0 hfg4_0 hcg4_1 hfg4_1 hcg4_2 hfg4_2 hcg4_3 hfg4_3 hcg4_4 hfg4_4); have hs : Below w2.heap.size w2 w3 := below_step (by repeat (first | exact Below.refl _ _ | apply below_alloc | apply pw_below_drewN | apply below_drew1)) hb; have hl : w2.heap.size ≤ _ := below_size (w := w2) (by repeat (first | exact Below.refl _ _ | apply below_alloc | apply pw_below_drewN | apply below_drew1)); have SZ3 := Aside0.mk (show w2.heap.size ≤ w3.heap.size from hs.size); replace BKg4 := bb BKg4 hs; replace HB := hbs HB hs; clear hb hs; (try clear hl); obtain ⟨⟨hcg4_0, hfg4_0⟩, ⟨hcg4_1, hfg4_1⟩, ⟨hcg4_2, hfg4_2⟩, ⟨hcg4_3, hfg4_3⟩, ⟨hcg4_4, hfg4_4⟩⟩ := cells5 BKg4.out; clear tok3; have tok4 : True := trivial) | (have _ := tok4; go_at_call 19; (with_reducible refine (twoslotlaw09_heavy.calls k Al cl l false _ ?s1 HCL.out HHE.out).mono ?_); (case s1 => exact Kd.C_below HCl.out (by repeat (first | exact HB.out | apply below_alloc | apply pw_below_drewN | apply below_drew1))); rintro e w4 ⟨rfl, hd⟩; have hb := hd.below; (try clear hcg4_0 hfg4_0 hcg4_1 hfg4_1 hcg4_2 hfg4_2 hcg4_3 hfg4_3 hcg4_4 hfg4_4); have hs : Below w3.heap.size w3 w4 := below_step (by repeat (first | exact Below.refl _ _ | apply below_alloc | apply pw_below_drewN | apply below_drew1)) hb; have SZ4 := Aside0.mk (show w3.heap.size ≤ w4.heap.size from hs.size); replace BKg4 := bb BKg4 hs; replace HB := hbs HB hs; clear hb hd hs; obtain ⟨⟨hcg4_0, hfg4_0⟩, ⟨hcg4_1, hfg4_1⟩, ⟨hcg4_2, hfg4_2⟩, ⟨hcg4_3, hfg4_3⟩, ⟨hcg4_4, hfg4_4⟩⟩ := cells5 BKg4.out; clear tok4))
  (try clear hcg4_0 hfg4_0 hcg4_1 hfg4_1 hcg4_2 hfg4_2 hcg4_3 hfg4_3 hcg4_4 hfg4_4)
  obtain ⟨⟨hcg4_0, hfg4_0⟩, ⟨hcg4_1, hfg4_1⟩, ⟨hcg4_2, hfg4_2⟩, ⟨hcg4_3, hfg4_3⟩, ⟨hcg4_4, hfg4_4⟩⟩ := cells5 BKg4.out
  have tok5 : True := trivial
  go_wp2_with (first | (have _ := tok5; go_at_call 20; (with_reducible refine (twoslotref09_Twin.calls k a b c d Am cm sl a b c d sl _ ?s1 HCM.out HTW.out).mono ?_); (case s1 => exact Kd.C_below HCm.out (by repeat (first | exact HB.out | apply below_alloc | apply pw_below_drewN | apply below_drew1))); rintro e w5 ⟨v_x, rfl, ho, hb⟩; (try clear hcg4_0 hfg4_0 hcg4_1 hfg4_1 hcg4_2 hfg4_2 hcg4_3 hfg4_3 hcg4_4 hfg4_4); have hs : Below w4.heap.size w4 w5 := below_step (by repeat (first | exact Below.refl _ _ | apply below_alloc | apply pw_below_drewN | apply below_drew1)) hb; have hl : w4.heap.size ≤ _ := below_size (w := w4) (by repeat (first | exact Below.refl _ _ | apply below_alloc | apply pw_below_drewN | apply below_drew1)); have SZ5 := Aside0.mk (show w4.heap.size ≤ w5.heap.size from hs.size); replace BKg4 := bb BKg4 hs; have HOx := Aside0.mk (S_iv ho (below_size (by repeat (first | exact HB.out | apply below_alloc | apply pw_below_drewN | apply below_drew1))) hl); replace HB := hbs HB hs; clear ho; obtain ⟨x_A, x_c, e_⟩ := Kd.S_slice HOx.out; subst e_; clear hb hs; (try clear hl); obtain ⟨⟨hcg4_0, hfg4_0⟩, ⟨hcg4_1, hfg4_1⟩, ⟨hcg4_2, hfg4_2⟩, ⟨hcg4_3, hfg4_3⟩, ⟨hcg4_4, hfg4_4⟩⟩ := cells5 BKg4.out; clear tok5; have tok6 : True := trivial) | (have _ := tok6; (with_reducible refine gate_dst (N := 10) rfl ?_); refine box_event ?hg (N := 10) ?hd (cs := #[.int .i64 0, .int .i64 0, .int .i64 0, .int .i64 0, .slice none 0 0]) (t := 27) ?hr ?_; (case hd => rfl); (case hg => rfl); (case hr => first | (go_simp; done) | (go_simp; rfl)); intro g10 hg w6 hbox hb; have hs : Below w5.heap.size w5 w6 := below_step (by repeat (first | exact Below.refl _ _ | apply below_alloc | apply pw_below_drewN | apply below_drew1)) hb; have SZ6 := Aside0.mk (show w5.heap.size ≤ g10 ∧ g10 < w6.heap.size from ⟨by rw [hg]; exact (below_size (by repeat (first | exact Below.refl _ _ | apply below_alloc | apply pw_below_drewN | apply below_drew1))), blk_lt hbox⟩); (try clear hcg4_0 hfg4_0 hcg4_1 hfg4_1 hcg4_2 hfg4_2 hcg4_3 hfg4_3 hcg4_4 hfg4_4); replace BKg4 := bb BKg4 hs; replace HOx := sb HOx hs; replace HB := hbs HB hs; have q0_ := SZ1.out; have q1_ := SZ2.out; have q2_ := SZ3.out; have q3_ := SZ4.out; have q4_ := SZ5.out; have q5_ := SZ6.out; have hneg4_g10 : g4 ≠ g10 := (by omega); have hneg10_g4 := hneg4_g10.symm; clear q0_ q1_ q2_ q3_ q4_ q5_; have BKg10 := Aside0.mk hbox; clear hb hbox hg hs; obtain ⟨⟨hcg4_0, hfg4_0⟩, ⟨hcg4_1, hfg4_1⟩, ⟨hcg4_2, hfg4_2⟩, ⟨hcg4_3, hfg4_3⟩, ⟨hcg4_4, hfg4_4⟩⟩ := cells5 BKg4.out; obtain ⟨⟨hcg10_0, hfg10_0⟩, ⟨hcg10_1, hfg10_1⟩, ⟨hcg10_2, hfg10_2⟩, ⟨hcg10_3, hfg10_3⟩, ⟨hcg10_4, hfg10_4⟩⟩ := cells5 BKg10.out; clear tok6))
  (try clear hcg4_0 hfg4_0 hcg4_1 hfg4_1 hcg4_2 hfg4_2 hcg4_3 hfg4_3 hcg4_4 hfg4_4)
  (try clear hcg10_0 hfg10_0 hcg10_1 hfg10_1 hcg10_2 hfg10_2 hcg10_3 hfg10_3 hcg10_4 hfg10_4)
  have q0_ := SZ1.out
  have q1_ := SZ2.out
  have q2_ := SZ3.out
  have q3_ := SZ4.out
  have q4_ := SZ5.out
  have q5_ := SZ6.out
  generalize hw : (((((w6.setCell ⟨g10, 0, none⟩ (.int .i64 a)).setCell ⟨g10, 1, none⟩ (.int .i64 b)).setCell ⟨g10, 2, none⟩ (.int .i64 c)).setCell ⟨g10, 3, none⟩ (.int .i64 d)).setCell ⟨g10, 4, none⟩ (.slice x_A sl.length x_c)) = w7
  have hs : Kept w6 w7 (Iv g10 (g10 + 1)) := by rw [← hw]; exact kput (kput (kput (kput (kput (Kept.refl _ _)))))
  replace BKg4 := kb BKg4 hs (Iv_out (by omega))
  replace HOx := sk HOx hs (Iv_apart (by omega))
  replace BKg10 : Aside0 (w7.heap[g10]? = some (.cells #[.int .i64 a, .int .i64 b, .int .i64 c, .int .i64 d, .slice x_A sl.length x_c] 27 (0, 0))) := ⟨by rw [← hw]; exact blk_put (blk_put (blk_put (blk_put (blk_put (BKg10.out) 0 _ rfl) 1 _ rfl) 2 _ rfl) 3 _ rfl) 4 _ rfl⟩
  have hq : w.heap.size ≤ g10 := (by omega)
  replace HB : Aside0 (Below w.heap.size w w7) := ⟨by rw [← hw]; exact below_set (below_set (below_set (below_set (below_set (HB.out) hq) hq) hq) hq) hq⟩
  have SZ7 := Aside0.mk (show w6.heap.size ≤ w7.heap.size from hs.1)
  clear q0_ q1_ q2_ q3_ q4_ q5_
  clear hs hw hq
  obtain ⟨⟨hcg4_0, hfg4_0⟩, ⟨hcg4_1, hfg4_1⟩, ⟨hcg4_2, hfg4_2⟩, ⟨hcg4_3, hfg4_3⟩, ⟨hcg4_4, hfg4_4⟩⟩ := cells5 BKg4.out
  obtain ⟨⟨hcg10_0, hfg10_0⟩, ⟨hcg10_1, hfg10_1⟩, ⟨hcg10_2, hfg10_2⟩, ⟨hcg10_3, hfg10_3⟩, ⟨hcg10_4, hfg10_4⟩⟩ := cells5 BKg10.out
  (try clear hcg4_0 hfg4_0 hcg4_1 hfg4_1 hcg4_2 hfg4_2 hcg4_3 hfg4_3 hcg4_4 hfg4_4)
  (try clear hcg10_0 hfg10_0 hcg10_1 hfg10_1 hcg10_2 hfg10_2 hcg10_3 hfg10_3 hcg10_4 hfg10_4)
  
  have tok7 : True := trivial
  go_upto_if 42 with (first | (have _ := tok7; go_at_call 21; (with_reducible refine (twoslotref09_TwinPuts.calls k Al cl l l _ ?s1 HCL.out HTP.out).mono ?_); (case s1 => exact Kd.C_below HCl.out (by repeat (first | exact HB.out | apply below_alloc | apply pw_below_drewN | apply below_drew1))); rintro e w8 ⟨v_y, rfl, ho, hb⟩; have hs : Below w7.heap.size w7 w8 := below_step (by repeat (first | exact Below.refl _ _ | apply below_alloc | apply pw_below_drewN | apply below_drew1)) hb; have hl : w7.heap.size ≤ _ := below_size (w := w7) (by repeat (first | exact Below.refl _ _ | apply below_alloc | apply pw_below_drewN | apply below_drew1)); have SZ8 := Aside0.mk (show w7.heap.size ≤ w8.heap.size from hs.size); replace BKg4 := bb BKg4 hs; replace HOx := sb HOx hs; replace BKg10 := bb BKg10 hs; have HOy := Aside0.mk (S_iv ho (below_size (by repeat (first | exact HB.out | apply below_alloc | apply pw_below_drewN | apply below_drew1))) hl); replace HB := hbs HB hs; clear ho; obtain ⟨y_A, y_c, e_⟩ := Kd.S_slice HOy.out; subst e_; clear hb hs; (try clear hl); clear tok7; have tok8 : True := trivial) | (have _ := tok8; (with_reducible refine gate_dst (N := 12) rfl ?_); refine box_event ?hg (N := 12) ?hd (cs := #[.int .i64 0, .int .i64 0, .int .i64 0, .slice none 0 0]) (t := 35) ?hr ?_; (case hd => rfl); (case hg => rfl); (case hr => first | (go_simp; done) | (go_simp; rfl)); intro g12 hg w9 hbox hb; have hs : Below w8.heap.size w8 w9 := below_step (by repeat (first | exact Below.refl _ _ | apply below_alloc | apply pw_below_drewN | apply below_drew1)) hb; have SZ9 := Aside0.mk (show w8.heap.size ≤ g12 ∧ g12 < w9.heap.size from ⟨by rw [hg]; exact (below_size (by repeat (first | exact Below.refl _ _ | apply below_alloc | apply pw_below_drewN | apply below_drew1))), blk_lt hbox⟩); replace BKg4 := bb BKg4 hs; replace HOx := sb HOx hs; replace BKg10 := bb BKg10 hs; replace HOy := sb HOy hs; replace HB := hbs HB hs; have q0_ := SZ1.out; have q1_ := SZ2.out; have q2_ := SZ3.out; have q3_ := SZ4.out; have q4_ := SZ5.out; have q5_ := SZ6.out; have q6_ := SZ7.out; have q7_ := SZ8.out; have q8_ := SZ9.out; have hneg4_g12 : g4 ≠ g12 := (by omega); have hneg12_g4 := hneg4_g12.symm; have hneg10_g12 : g10 ≠ g12 := (by omega); have hneg12_g10 := hneg10_g12.symm; clear q0_ q1_ q2_ q3_ q4_ q5_ q6_ q7_ q8_; have BKg12 := Aside0.mk hbox; clear hb hbox hg hs; obtain ⟨⟨hcg12_0, hfg12_0⟩, ⟨hcg12_1, hfg12_1⟩, ⟨hcg12_2, hfg12_2⟩, ⟨hcg12_3, hfg12_3⟩⟩ := cells4 BKg12.out; clear tok8; have tok9 : True := trivial) | (have _ := tok9; (with_reducible refine gate_dst (N := 13) rfl ?_); refine box_event ?hg (N := 13) ?hd (cs := #[.int .i64 0, .int .i64 0, .int .i64 0, .slice none 0 0]) (t := 35) ?hr ?_; (case hd => rfl); (case hg => rfl); (case hr => first | (go_simp; done) | (go_simp; rfl)); intro g13 hg w10 hbox hb; have hs : Below w9.heap.size w9 w10 := below_step (by repeat (first | exact Below.refl _ _ | apply below_alloc | apply pw_below_drewN | apply below_drew1)) hb; have SZ10 := Aside0.mk (show w9.heap.size ≤ g13 ∧ g13 < w10.heap.size from ⟨by rw [hg]; exact (below_size (by repeat (first | exact Below.refl _ _ | apply below_alloc | apply pw_below_drewN | apply below_drew1))), blk_lt hbox⟩); (try clear hcg12_0 hfg12_0 hcg12_1 hfg12_1 hcg12_2 hfg12_2 hcg12_3 hfg12_3); replace BKg4 := bb BKg4 hs; replace HOx := sb HOx hs; replace BKg10 := bb BKg10 hs; replace HOy := sb HOy hs; replace BKg12 := bb BKg12 hs; replace HB := hbs HB hs; have q0_ := SZ1.out; have q1_ := SZ2.out; have q2_ := SZ3.out; have q3_ := SZ4.out; have q4_ := SZ5.out; have q5_ := SZ6.out; have q6_ := SZ7.out; have q7_ := SZ8.out; have q8_ := SZ9.out; have q9_ := SZ10.out; have hneg4_g13 : g4 ≠ g13 := (by omega); have hneg13_g4 := hneg4_g13.symm; have hneg10_g13 : g10 ≠ g13 := (by omega); have hneg13_g10 := hneg10_g13.symm; have hneg12_g13 : g12 ≠ g13 := (by omega); have hneg13_g12 := hneg12_g13.symm; clear q0_ q1_ q2_ q3_ q4_ q5_ q6_ q7_ q8_ q9_; have BKg13 := Aside0.mk hbox; clear hb hbox hg hs; obtain ⟨⟨hcg12_0, hfg12_0⟩, ⟨hcg12_1, hfg12_1⟩, ⟨hcg12_2, hfg12_2⟩, ⟨hcg12_3, hfg12_3⟩⟩ := cells4 BKg12.out; obtain ⟨⟨hcg13_0, hfg13_0⟩, ⟨hcg13_1, hfg13_1⟩, ⟨hcg13_2, hfg13_2⟩, ⟨hcg13_3, hfg13_3⟩⟩ := cells4 BKg13.out; clear tok9))
  (try clear hcg12_0 hfg12_0 hcg12_1 hfg12_1 hcg12_2 hfg12_2 hcg12_3 hfg12_3)
  (try clear hcg13_0 hfg13_0 hcg13_1 hfg13_1 hcg13_2 hfg13_2 hcg13_3 hfg13_3)
  go_cut [] (fun wc => ∃ (A1 : Option Addr) (c1 : Nat) (A2 : Option Addr) (c2 : Nat), Aside0 (wc.heap[g4]? = some (.cells #[.int .i64 a, .int .i64 b, .int .i64 c, .int .i64 d, .slice Am sl.length cm] 27 (0, 0))) ∧ Aside0 (wc.heap[g10]? = some (.cells #[.int .i64 a, .int .i64 b, .int .i64 c, .int .i64 d, .slice x_A sl.length x_c] 27 (0, 0))) ∧ Aside0 (wc.heap[g12]? = some (.cells #[.int .i64 z.f0, .int .i64 z.f1, .int .i64 z.f2, .slice A1 z.f3.length c1] 35 (0, 0))) ∧ Aside0 (wc.heap[g13]? = some (.cells #[.int .i64 z.f0, .int .i64 z.f1, .int .i64 z.f2, .slice A2 z.f3.length c2] 35 (0, 0))) ∧ Aside0 (z.f3.length ≤ c1 ∧ Kd.C (Kd.int .u8) w A1 z.f3.length z.f3) ∧ Aside0 (Kd.V (Kd.int .u8) 5 wc w.heap.size (Iv w7.heap.size w8.heap.size) (.slice A2 z.f3.length c2) z.f3) ∧ Aside0 (Kd.S (Kd.slice 5 (Kd.int .u8)) 33 wc w.heap.size (Iv w4.heap.size w5.heap.size) (.slice x_A sl.length x_c) sl) ∧ Aside0 (Kd.S k35 35 wc w.heap.size (Iv w7.heap.size w8.heap.size) (.slice y_A l.length y_c) l) ∧ Aside0 (Below w.heap.size w wc) ∧ Aside0 (w10.heap.size ≤ wc.heap.size))
  case first =>
    by_cases hl0 : 0 < l.length
    · obtain ⟨lad, lB, lc, lE, lx0, lx1, lx2, lx3, lle, lC⟩ := at_T35 HCl.out 0 (by omega) (by omega)
      subst lE
      rw [HZ.out] at lx0 lx1 lx2 lx3 lle lC
      have LC := Aside0.mk lC
      have LLE := Aside0.mk lle
      have d1 : decide ((0 : Int) < (l.length : Int)) = true := decide_eq_true (by omega)
      have d2 : decide (0 < l.length) = true := decide_eq_true hl0
      have d3 : (0 < l.length) = True := eq_true hl0
      have HL0 := Aside0.mk hl0
      replace lx0 := pw_cell_below HB.out lx0
      replace lx1 := pw_cell_below HB.out lx1
      replace lx2 := pw_cell_below HB.out lx2
      replace lx3 := pw_cell_below HB.out lx3
      simp only [show ((0 : Int)).toNat = 0 from rfl, Nat.zero_mul, Addr.add_zero'] at lx0 lx1 lx2 lx3
      clear hl0 lle lC
      (try clear hcg12_0 hfg12_0 hcg12_1 hfg12_1 hcg12_2 hfg12_2 hcg12_3 hfg12_3)
      (try clear hcg13_0 hfg13_0 hcg13_1 hfg13_1 hcg13_2 hfg13_2 hcg13_3 hfg13_3)
      obtain ⟨⟨hcg12_0, hfg12_0⟩, ⟨hcg12_1, hfg12_1⟩, ⟨hcg12_2, hfg12_2⟩, ⟨hcg12_3, hfg12_3⟩⟩ := cells4 BKg12.out
      rw [d2]
      go_upto_region 12 with (fail)
      clear lx0 lx1 lx2 lx3
      (try clear hcg12_0 hfg12_0 hcg12_1 hfg12_1 hcg12_2 hfg12_2 hcg12_3 hfg12_3)
      have q0_ := SZ1.out
      have q1_ := SZ2.out
      have q2_ := SZ3.out
      have q3_ := SZ4.out
      have q4_ := SZ5.out
      have q5_ := SZ6.out
      have q6_ := SZ7.out
      have q7_ := SZ8.out
      have q8_ := SZ9.out
      have q9_ := SZ10.out
      generalize hw : ((((w10.setCell ⟨g12, 0, none⟩ (.int .i64 z.f0)).setCell ⟨g12, 1, none⟩ (.int .i64 z.f1)).setCell ⟨g12, 2, none⟩ (.int .i64 z.f2)).setCell ⟨g12, 3, none⟩ (.slice lB z.f3.length lc)) = w11
      have hs : Kept w10 w11 (Iv g12 (g12 + 1)) := by rw [← hw]; exact kput (kput (kput (kput (Kept.refl _ _))))
      replace BKg4 := kb BKg4 hs (Iv_out (by omega))
      replace HOx := sk HOx hs (Iv_apart (by omega))
      replace BKg10 := kb BKg10 hs (Iv_out (by omega))
      replace HOy := sk HOy hs (Iv_apart (by omega))
      replace BKg13 := kb BKg13 hs (Iv_out (by omega))
      replace BKg12 : Aside0 (w11.heap[g12]? = some (.cells #[.int .i64 z.f0, .int .i64 z.f1, .int .i64 z.f2, .slice lB z.f3.length lc] 35 (0, 0))) := ⟨by rw [← hw]; exact blk_put (blk_put (blk_put (blk_put (BKg12.out) 0 _ rfl) 1 _ rfl) 2 _ rfl) 3 _ rfl⟩
      have hq : w.heap.size ≤ g12 := (by omega)
      replace HB : Aside0 (Below w.heap.size w w11) := ⟨by rw [← hw]; exact below_set (below_set (below_set (below_set (HB.out) hq) hq) hq) hq⟩
      have SZ11 := Aside0.mk (show w10.heap.size ≤ w11.heap.size from hs.1)
      clear q0_ q1_ q2_ q3_ q4_ q5_ q6_ q7_ q8_ q9_
      clear hs hw hq
      
      obtain ⟨⟨hcg13_0, hfg13_0⟩, ⟨hcg13_1, hfg13_1⟩, ⟨hcg13_2, hfg13_2⟩, ⟨hcg13_3, hfg13_3⟩⟩ := cells4 BKg13.out
      obtain ⟨gy, cy, ey, _, _, _, _⟩ := Kd.S_form HOy.out (by have := HL0.out; omega)
      injection ey with eyA _ eyc
      subst eyA
      subst eyc
      obtain ⟨yB, ye, y0, y1, y2, y3, yR⟩ := S_first HOy.out HL0.out
      rw [HZ.out] at y0 y1 y2 y3 yR
      have HOf := Aside0.mk yR
      clear yR
      go_wp2_with (fail)
      clear y0 y1 y2 y3
      (try clear hcg13_0 hfg13_0 hcg13_1 hfg13_1 hcg13_2 hfg13_2 hcg13_3 hfg13_3)
      have q0_ := SZ1.out
      have q1_ := SZ2.out
      have q2_ := SZ3.out
      have q3_ := SZ4.out
      have q4_ := SZ5.out
      have q5_ := SZ6.out
      have q6_ := SZ7.out
      have q7_ := SZ8.out
      have q8_ := SZ9.out
      have q9_ := SZ10.out
      have q10_ := SZ11.out
      generalize hw : ((((w11.setCell ⟨g13, 0, none⟩ (.int .i64 z.f0)).setCell ⟨g13, 1, none⟩ (.int .i64 z.f1)).setCell ⟨g13, 2, none⟩ (.int .i64 z.f2)).setCell ⟨g13, 3, none⟩ (.slice yB z.f3.length ye)) = w12
      have hs : Kept w11 w12 (Iv g13 (g13 + 1)) := by rw [← hw]; exact kput (kput (kput (kput (Kept.refl _ _))))
      replace BKg4 := kb BKg4 hs (Iv_out (by omega))
      replace HOx := sk HOx hs (Iv_apart (by omega))
      replace BKg10 := kb BKg10 hs (Iv_out (by omega))
      replace HOy := sk HOy hs (Iv_apart (by omega))
      replace BKg12 := kb BKg12 hs (Iv_out (by omega))
      replace HOf := rk HOf hs (Iv_apart (by omega))
      replace BKg13 : Aside0 (w12.heap[g13]? = some (.cells #[.int .i64 z.f0, .int .i64 z.f1, .int .i64 z.f2, .slice yB z.f3.length ye] 35 (0, 0))) := ⟨by rw [← hw]; exact blk_put (blk_put (blk_put (blk_put (BKg13.out) 0 _ rfl) 1 _ rfl) 2 _ rfl) 3 _ rfl⟩
      have hq : w.heap.size ≤ g13 := (by omega)
      replace HB : Aside0 (Below w.heap.size w w12) := ⟨by rw [← hw]; exact below_set (below_set (below_set (below_set (HB.out) hq) hq) hq) hq⟩
      have SZ12 := Aside0.mk (show w11.heap.size ≤ w12.heap.size from hs.1)
      clear q0_ q1_ q2_ q3_ q4_ q5_ q6_ q7_ q8_ q9_ q10_
      clear hs hw hq
      go_meet
      case rel => exact ⟨lB, lc, yB, ye, Aside0.mk (by (with_reducible repeat (first | refine blk_drewN ?_ _ | refine blk_drew ?_ | refine blk_alloc ?_ _)); exact BKg4.out), Aside0.mk (by (with_reducible repeat (first | refine blk_drewN ?_ _ | refine blk_drew ?_ | refine blk_alloc ?_ _)); exact BKg10.out), Aside0.mk (by (with_reducible repeat (first | refine blk_drewN ?_ _ | refine blk_drew ?_ | refine blk_alloc ?_ _)); exact BKg12.out), Aside0.mk (by (with_reducible repeat (first | refine blk_drewN ?_ _ | refine blk_drew ?_ | refine blk_alloc ?_ _)); exact BKg13.out), Aside0.mk ⟨LLE.out, LC.out⟩, Aside0.mk (Kd.R_V HOf.out), HOx, HOy, HB, Aside0.mk (by have := SZ1.out; have := SZ2.out; have := SZ3.out; have := SZ4.out; have := SZ5.out; have := SZ6.out; have := SZ7.out; have := SZ8.out; have := SZ9.out; have := SZ10.out; have := SZ11.out; have := SZ12.out; omega)⟩
    · have d1 : decide ((0 : Int) < (l.length : Int)) = false := decide_eq_false (by omega)
      have d2 : decide (0 < l.length) = false := decide_eq_false hl0
      have d3 : (0 < l.length) = False := eq_false hl0
      have hln : l = [] := List.eq_nil_of_length_eq_zero (by omega)
      have HLN := Aside0.mk hln
      have d4 : (l ≠ []) = False := eq_false (fun h => h hln)
      have hz := HZ.out
      rw [hln] at hz
      have HZ2 := Aside0.mk (show z = z35 from hz.symm)
      clear hln hz hl0
      rw [d2]
      go_wp2_with (fail)
      go_meet
      case rel => have hz2 := HZ2.out; subst hz2; exact ⟨none, 0, none, 0, Aside0.mk (by (with_reducible repeat (first | refine blk_drewN ?_ _ | refine blk_drew ?_ | refine blk_alloc ?_ _)); exact BKg4.out), Aside0.mk (by (with_reducible repeat (first | refine blk_drewN ?_ _ | refine blk_drew ?_ | refine blk_alloc ?_ _)); exact BKg10.out), Aside0.mk (by (with_reducible repeat (first | refine blk_drewN ?_ _ | refine blk_drew ?_ | refine blk_alloc ?_ _)); exact BKg12.out), Aside0.mk (by (with_reducible repeat (first | refine blk_drewN ?_ _ | refine blk_drew ?_ | refine blk_alloc ?_ _)); exact BKg13.out), Aside0.mk ⟨Nat.le_refl _, Kd.C_nil _ _⟩, Aside0.mk (Kd.V_nil _ _ _ _ _), HOx, HOy, HB, Aside0.mk (Nat.le_refl _)⟩
  case rest =>
    clear BKg4 BKg10 BKg12 BKg13 HOx HOy HB
    obtain ⟨lB, lc, yB, ye, BKg4, BKg10, BKg12, BKg13, HLC, HOf, HOx, HOy, HB, SZc⟩ := hcut
    have LLE := Aside0.mk HLC.out.1
    have LC := Aside0.mk HLC.out.2
    clear HLC
    (try clear hcg12_0 hfg12_0 hcg12_1 hfg12_1 hcg12_2 hfg12_2 hcg12_3 hfg12_3)
    (try clear hcg13_0 hfg13_0 hcg13_1 hfg13_1 hcg13_2 hfg13_2 hcg13_3 hfg13_3)
    obtain ⟨⟨hcg10_0, hfg10_0⟩, ⟨hcg10_1, hfg10_1⟩, ⟨hcg10_2, hfg10_2⟩, ⟨hcg10_3, hfg10_3⟩, ⟨hcg10_4, hfg10_4⟩⟩ := cells5 BKg10.out
    obtain ⟨⟨hcg13_0, hfg13_0⟩, ⟨hcg13_1, hfg13_1⟩, ⟨hcg13_2, hfg13_2⟩, ⟨hcg13_3, hfg13_3⟩⟩ := cells4 BKg13.out
    have tok10 : True := trivial
    go_wp2_with (first | (have _ := tok10; go_at_call 22; (with_reducible refine (image_Put.calls k a b c d x_A x_c sl z.f0 z.f1 z.f2 yB ye z.f3 p0 p1 p2 p3 ps e1 _ ?s1 (Kd.S_reads' HOx.out).2.1 ?s2 (Kd.V_reads' HOf.out).2.1 HPU.out).mono ?_); (case s1 => exact (Kd.S_reads' (Kd.S_below HOx.out (by repeat (first | exact Below.refl _ _ | apply below_alloc | apply pw_below_drewN | apply below_drew1)))).2.2); (case s2 => exact (Kd.V_reads' (Kd.V_below HOf.out (by repeat (first | exact Below.refl _ _ | apply below_alloc | apply pw_below_drewN | apply below_drew1)))).2.2); rintro e w13 ⟨v_p, rfl, ho, hb⟩; (try clear hcg10_0 hfg10_0 hcg10_1 hfg10_1 hcg10_2 hfg10_2 hcg10_3 hfg10_3 hcg10_4 hfg10_4); (try clear hcg13_0 hfg13_0 hcg13_1 hfg13_1 hcg13_2 hfg13_2 hcg13_3 hfg13_3); have hs : Below wc.heap.size wc w13 := below_step (by repeat (first | exact Below.refl _ _ | apply below_alloc | apply pw_below_drewN | apply below_drew1)) hb; have hl : wc.heap.size ≤ _ := below_size (w := wc) (by repeat (first | exact Below.refl _ _ | apply below_alloc | apply pw_below_drewN | apply below_drew1)); have SZ13 := Aside0.mk (show wc.heap.size ≤ w13.heap.size from hs.size); replace BKg4 := bb BKg4 hs; replace HOx := sb HOx hs; replace BKg10 := bb BKg10 hs; replace HOy := sb HOy hs; replace BKg12 := bb BKg12 hs; replace BKg13 := bb BKg13 hs; replace HOf := Aside0.mk (Kd.V_below HOf.out hs); have HOp := Aside0.mk (S_iv ho (below_size (by repeat (first | exact HB.out | apply below_alloc | apply pw_below_drewN | apply below_drew1))) hl); replace HB := hbs HB hs; clear ho; obtain ⟨p_A, p_c, e_⟩ := Kd.S_slice HOp.out; subst e_; clear hb hs; (try clear hl); obtain ⟨⟨hcg10_0, hfg10_0⟩, ⟨hcg10_1, hfg10_1⟩, ⟨hcg10_2, hfg10_2⟩, ⟨hcg10_3, hfg10_3⟩, ⟨hcg10_4, hfg10_4⟩⟩ := cells5 BKg10.out; obtain ⟨⟨hcg13_0, hfg13_0⟩, ⟨hcg13_1, hfg13_1⟩, ⟨hcg13_2, hfg13_2⟩, ⟨hcg13_3, hfg13_3⟩⟩ := cells4 BKg13.out; clear tok10; have tok11 : True := trivial) | (have _ := tok11; (with_reducible refine gate_dst (N := 14) rfl ?_); refine box_event ?hg (N := 14) ?hd (cs := #[.int .i64 0, .int .i64 0, .int .i64 0, .int .i64 0, .slice none 0 0]) (t := 27) ?hr ?_; (case hd => rfl); (case hg => rfl); (case hr => first | (go_simp; done) | (go_simp; rfl)); intro g14 hg w14 hbox hb; have hs : Below w13.heap.size w13 w14 := below_step (by repeat (first | exact Below.refl _ _ | apply below_alloc | apply pw_below_drewN | apply below_drew1)) hb; have SZ14 := Aside0.mk (show w13.heap.size ≤ g14 ∧ g14 < w14.heap.size from ⟨by rw [hg]; exact (below_size (by repeat (first | exact Below.refl _ _ | apply below_alloc | apply pw_below_drewN | apply below_drew1))), blk_lt hbox⟩); (try clear hcg10_0 hfg10_0 hcg10_1 hfg10_1 hcg10_2 hfg10_2 hcg10_3 hfg10_3 hcg10_4 hfg10_4); (try clear hcg13_0 hfg13_0 hcg13_1 hfg13_1 hcg13_2 hfg13_2 hcg13_3 hfg13_3); replace BKg4 := bb BKg4 hs; replace HOx := sb HOx hs; replace BKg10 := bb BKg10 hs; replace HOy := sb HOy hs; replace BKg12 := bb BKg12 hs; replace BKg13 := bb BKg13 hs; replace HOf := Aside0.mk (Kd.V_below HOf.out hs); replace HOp := sb HOp hs; replace HB := hbs HB hs; have q0_ := SZ1.out; have q1_ := SZ2.out; have q2_ := SZ3.out; have q3_ := SZ4.out; have q4_ := SZ5.out; have q5_ := SZ6.out; have q6_ := SZ7.out; have q7_ := SZ8.out; have q8_ := SZ9.out; have q9_ := SZ10.out; have q10_ := SZc.out; have q11_ := SZ13.out; have q12_ := SZ14.out; have hneg4_g14 : g4 ≠ g14 := (by omega); have hneg14_g4 := hneg4_g14.symm; have hneg10_g14 : g10 ≠ g14 := (by omega); have hneg14_g10 := hneg10_g14.symm; have hneg12_g14 : g12 ≠ g14 := (by omega); have hneg14_g12 := hneg12_g14.symm; have hneg13_g14 : g13 ≠ g14 := (by omega); have hneg14_g13 := hneg13_g14.symm; clear q0_ q1_ q2_ q3_ q4_ q5_ q6_ q7_ q8_ q9_ q10_ q11_ q12_; have BKg14 := Aside0.mk hbox; clear hb hbox hg hs; obtain ⟨⟨hcg10_0, hfg10_0⟩, ⟨hcg10_1, hfg10_1⟩, ⟨hcg10_2, hfg10_2⟩, ⟨hcg10_3, hfg10_3⟩, ⟨hcg10_4, hfg10_4⟩⟩ := cells5 BKg10.out; obtain ⟨⟨hcg13_0, hfg13_0⟩, ⟨hcg13_1, hfg13_1⟩, ⟨hcg13_2, hfg13_2⟩, ⟨hcg13_3, hfg13_3⟩⟩ := cells4 BKg13.out; obtain ⟨⟨hcg14_0, hfg14_0⟩, ⟨hcg14_1, hfg14_1⟩, ⟨hcg14_2, hfg14_2⟩, ⟨hcg14_3, hfg14_3⟩, ⟨hcg14_4, hfg14_4⟩⟩ := cells5 BKg14.out; clear tok11))
    (try clear hcg10_0 hfg10_0 hcg10_1 hfg10_1 hcg10_2 hfg10_2 hcg10_3 hfg10_3 hcg10_4 hfg10_4)
    (try clear hcg13_0 hfg13_0 hcg13_1 hfg13_1 hcg13_2 hfg13_2 hcg13_3 hfg13_3)
    (try clear hcg14_0 hfg14_0 hcg14_1 hfg14_1 hcg14_2 hfg14_2 hcg14_3 hfg14_3 hcg14_4 hfg14_4)
    have q0_ := SZ1.out
    have q1_ := SZ2.out
    have q2_ := SZ3.out
    have q3_ := SZ4.out
    have q4_ := SZ5.out
    have q5_ := SZ6.out
    have q6_ := SZ7.out
    have q7_ := SZ8.out
    have q8_ := SZ9.out
    have q9_ := SZ10.out
    have q10_ := SZc.out
    have q11_ := SZ13.out
    have q12_ := SZ14.out
    generalize hw : (((((w14.setCell ⟨g14, 0, none⟩ (.int .i64 p0)).setCell ⟨g14, 1, none⟩ (.int .i64 p1)).setCell ⟨g14, 2, none⟩ (.int .i64 p2)).setCell ⟨g14, 3, none⟩ (.int .i64 p3)).setCell ⟨g14, 4, none⟩ (.slice p_A ps.length p_c)) = w15
    have hs : Kept w14 w15 (Iv g14 (g14 + 1)) := by rw [← hw]; exact kput (kput (kput (kput (kput (Kept.refl _ _)))))
    replace BKg4 := kb BKg4 hs (Iv_out (by omega))
    replace HOx := sk HOx hs (Iv_apart (by omega))
    replace BKg10 := kb BKg10 hs (Iv_out (by omega))
    replace HOy := sk HOy hs (Iv_apart (by omega))
    replace BKg12 := kb BKg12 hs (Iv_out (by omega))
    replace BKg13 := kb BKg13 hs (Iv_out (by omega))
    replace HOf := Aside0.mk (Kd.V_kept HOf.out hs (Iv_apart (by omega)))
    replace HOp := sk HOp hs (Iv_apart (by omega))
    replace BKg14 : Aside0 (w15.heap[g14]? = some (.cells #[.int .i64 p0, .int .i64 p1, .int .i64 p2, .int .i64 p3, .slice p_A ps.length p_c] 27 (0, 0))) := ⟨by rw [← hw]; exact blk_put (blk_put (blk_put (blk_put (blk_put (BKg14.out) 0 _ rfl) 1 _ rfl) 2 _ rfl) 3 _ rfl) 4 _ rfl⟩
    have hq : w.heap.size ≤ g14 := (by omega)
    replace HB : Aside0 (Below w.heap.size w w15) := ⟨by rw [← hw]; exact below_set (below_set (below_set (below_set (below_set (HB.out) hq) hq) hq) hq) hq⟩
    have SZ15 := Aside0.mk (show w14.heap.size ≤ w15.heap.size from hs.1)
    clear q0_ q1_ q2_ q3_ q4_ q5_ q6_ q7_ q8_ q9_ q10_ q11_ q12_
    clear hs hw hq
    obtain ⟨⟨hcg10_0, hfg10_0⟩, ⟨hcg10_1, hfg10_1⟩, ⟨hcg10_2, hfg10_2⟩, ⟨hcg10_3, hfg10_3⟩, ⟨hcg10_4, hfg10_4⟩⟩ := cells5 BKg10.out
    obtain ⟨⟨hcg13_0, hfg13_0⟩, ⟨hcg13_1, hfg13_1⟩, ⟨hcg13_2, hfg13_2⟩, ⟨hcg13_3, hfg13_3⟩⟩ := cells4 BKg13.out
    obtain ⟨⟨hcg14_0, hfg14_0⟩, ⟨hcg14_1, hfg14_1⟩, ⟨hcg14_2, hfg14_2⟩, ⟨hcg14_3, hfg14_3⟩, ⟨hcg14_4, hfg14_4⟩⟩ := cells5 BKg14.out
    clear HOf
    (try clear hcg10_0 hfg10_0 hcg10_1 hfg10_1 hcg10_2 hfg10_2 hcg10_3 hfg10_3 hcg10_4 hfg10_4)
    (try clear hcg13_0 hfg13_0 hcg13_1 hfg13_1 hcg13_2 hfg13_2 hcg13_3 hfg13_3)
    (try clear hcg14_0 hfg14_0 hcg14_1 hfg14_1 hcg14_2 hfg14_2 hcg14_3 hfg14_3 hcg14_4 hfg14_4)
    obtain ⟨⟨hcg10_0, hfg10_0⟩, ⟨hcg10_1, hfg10_1⟩, ⟨hcg10_2, hfg10_2⟩, ⟨hcg10_3, hfg10_3⟩, ⟨hcg10_4, hfg10_4⟩⟩ := cells5 BKg10.out
    have tok12 : True := trivial
    go_wp2_with (first | (have _ := tok12; go_at_call 13; (with_reducible refine (image_After.calls k a b c d x_A x_c sl y_A y_c l n q0 q1 q2 q3 qs e2 _ ?s1 (Kd.S_reads' HOx.out).2.1 ?s2 (Kd.S_reads' HOy.out).2.1 HAF.out).mono ?_); (case s1 => exact (Kd.S_reads' (Kd.S_below HOx.out (by repeat (first | exact Below.refl _ _ | apply below_alloc | apply pw_below_drewN | apply below_drew1)))).2.2); (case s2 => exact (Kd.S_reads' (Kd.S_below HOy.out (by repeat (first | exact Below.refl _ _ | apply below_alloc | apply pw_below_drewN | apply below_drew1)))).2.2); rintro e w16 ⟨v_q, rfl, ho, hb⟩; (try clear hcg10_0 hfg10_0 hcg10_1 hfg10_1 hcg10_2 hfg10_2 hcg10_3 hfg10_3 hcg10_4 hfg10_4); have hs : Below w15.heap.size w15 w16 := below_step (by repeat (first | exact Below.refl _ _ | apply below_alloc | apply pw_below_drewN | apply below_drew1)) hb; have hl : w15.heap.size ≤ _ := below_size (w := w15) (by repeat (first | exact Below.refl _ _ | apply below_alloc | apply pw_below_drewN | apply below_drew1)); have SZ16 := Aside0.mk (show w15.heap.size ≤ w16.heap.size from hs.size); replace BKg4 := bb BKg4 hs; replace HOx := sb HOx hs; replace BKg10 := bb BKg10 hs; replace HOy := sb HOy hs; replace BKg12 := bb BKg12 hs; replace BKg13 := bb BKg13 hs; replace HOp := sb HOp hs; replace BKg14 := bb BKg14 hs; have HOq := Aside0.mk (S_iv ho (below_size (by repeat (first | exact HB.out | apply below_alloc | apply pw_below_drewN | apply below_drew1))) hl); replace HB := hbs HB hs; clear ho; obtain ⟨q_A, q_c, e_⟩ := Kd.S_slice HOq.out; subst e_; clear hb hs; (try clear hl); obtain ⟨⟨hcg10_0, hfg10_0⟩, ⟨hcg10_1, hfg10_1⟩, ⟨hcg10_2, hfg10_2⟩, ⟨hcg10_3, hfg10_3⟩, ⟨hcg10_4, hfg10_4⟩⟩ := cells5 BKg10.out; clear tok12; have tok13 : True := trivial) | (have _ := tok13; (with_reducible refine gate_dst (N := 16) rfl ?_); refine box_event ?hg (N := 16) ?hd (cs := #[.int .i64 0, .int .i64 0, .int .i64 0, .int .i64 0, .slice none 0 0]) (t := 27) ?hr ?_; (case hd => rfl); (case hg => rfl); (case hr => first | (go_simp; done) | (go_simp; rfl)); intro g16 hg w17 hbox hb; have hs : Below w16.heap.size w16 w17 := below_step (by repeat (first | exact Below.refl _ _ | apply below_alloc | apply pw_below_drewN | apply below_drew1)) hb; have SZ17 := Aside0.mk (show w16.heap.size ≤ g16 ∧ g16 < w17.heap.size from ⟨by rw [hg]; exact (below_size (by repeat (first | exact Below.refl _ _ | apply below_alloc | apply pw_below_drewN | apply below_drew1))), blk_lt hbox⟩); (try clear hcg10_0 hfg10_0 hcg10_1 hfg10_1 hcg10_2 hfg10_2 hcg10_3 hfg10_3 hcg10_4 hfg10_4); replace BKg4 := bb BKg4 hs; replace HOx := sb HOx hs; replace BKg10 := bb BKg10 hs; replace HOy := sb HOy hs; replace BKg12 := bb BKg12 hs; replace BKg13 := bb BKg13 hs; replace HOp := sb HOp hs; replace BKg14 := bb BKg14 hs; replace HOq := sb HOq hs; replace HB := hbs HB hs; have q0_ := SZ1.out; have q1_ := SZ2.out; have q2_ := SZ3.out; have q3_ := SZ4.out; have q4_ := SZ5.out; have q5_ := SZ6.out; have q6_ := SZ7.out; have q7_ := SZ8.out; have q8_ := SZ9.out; have q9_ := SZ10.out; have q10_ := SZc.out; have q11_ := SZ13.out; have q12_ := SZ14.out; have q13_ := SZ15.out; have q14_ := SZ16.out; have q15_ := SZ17.out; have hneg4_g16 : g4 ≠ g16 := (by omega); have hneg16_g4 := hneg4_g16.symm; have hneg10_g16 : g10 ≠ g16 := (by omega); have hneg16_g10 := hneg10_g16.symm; have hneg12_g16 : g12 ≠ g16 := (by omega); have hneg16_g12 := hneg12_g16.symm; have hneg13_g16 : g13 ≠ g16 := (by omega); have hneg16_g13 := hneg13_g16.symm; have hneg14_g16 : g14 ≠ g16 := (by omega); have hneg16_g14 := hneg14_g16.symm; clear q0_ q1_ q2_ q3_ q4_ q5_ q6_ q7_ q8_ q9_ q10_ q11_ q12_ q13_ q14_ q15_; have BKg16 := Aside0.mk hbox; clear hb hbox hg hs; obtain ⟨⟨hcg10_0, hfg10_0⟩, ⟨hcg10_1, hfg10_1⟩, ⟨hcg10_2, hfg10_2⟩, ⟨hcg10_3, hfg10_3⟩, ⟨hcg10_4, hfg10_4⟩⟩ := cells5 BKg10.out; obtain ⟨⟨hcg16_0, hfg16_0⟩, ⟨hcg16_1, hfg16_1⟩, ⟨hcg16_2, hfg16_2⟩, ⟨hcg16_3, hfg16_3⟩, ⟨hcg16_4, hfg16_4⟩⟩ := cells5 BKg16.out; clear tok13))
    (try clear hcg10_0 hfg10_0 hcg10_1 hfg10_1 hcg10_2 hfg10_2 hcg10_3 hfg10_3 hcg10_4 hfg10_4)
    (try clear hcg16_0 hfg16_0 hcg16_1 hfg16_1 hcg16_2 hfg16_2 hcg16_3 hfg16_3 hcg16_4 hfg16_4)
    have q0_ := SZ1.out
    have q1_ := SZ2.out
    have q2_ := SZ3.out
    have q3_ := SZ4.out
    have q4_ := SZ5.out
    have q5_ := SZ6.out
    have q6_ := SZ7.out
    have q7_ := SZ8.out
    have q8_ := SZ9.out
    have q9_ := SZ10.out
    have q10_ := SZc.out
    have q11_ := SZ13.out
    have q12_ := SZ14.out
    have q13_ := SZ15.out
    have q14_ := SZ16.out
    have q15_ := SZ17.out
    generalize hw : (((((w17.setCell ⟨g16, 0, none⟩ (.int .i64 q0)).setCell ⟨g16, 1, none⟩ (.int .i64 q1)).setCell ⟨g16, 2, none⟩ (.int .i64 q2)).setCell ⟨g16, 3, none⟩ (.int .i64 q3)).setCell ⟨g16, 4, none⟩ (.slice q_A qs.length q_c)) = w18
    have hs : Kept w17 w18 (Iv g16 (g16 + 1)) := by rw [← hw]; exact kput (kput (kput (kput (kput (Kept.refl _ _)))))
    replace BKg4 := kb BKg4 hs (Iv_out (by omega))
    replace HOx := sk HOx hs (Iv_apart (by omega))
    replace BKg10 := kb BKg10 hs (Iv_out (by omega))
    replace HOy := sk HOy hs (Iv_apart (by omega))
    replace BKg12 := kb BKg12 hs (Iv_out (by omega))
    replace BKg13 := kb BKg13 hs (Iv_out (by omega))
    replace HOp := sk HOp hs (Iv_apart (by omega))
    replace BKg14 := kb BKg14 hs (Iv_out (by omega))
    replace HOq := sk HOq hs (Iv_apart (by omega))
    replace BKg16 : Aside0 (w18.heap[g16]? = some (.cells #[.int .i64 q0, .int .i64 q1, .int .i64 q2, .int .i64 q3, .slice q_A qs.length q_c] 27 (0, 0))) := ⟨by rw [← hw]; exact blk_put (blk_put (blk_put (blk_put (blk_put (BKg16.out) 0 _ rfl) 1 _ rfl) 2 _ rfl) 3 _ rfl) 4 _ rfl⟩
    have hq : w.heap.size ≤ g16 := (by omega)
    replace HB : Aside0 (Below w.heap.size w w18) := ⟨by rw [← hw]; exact below_set (below_set (below_set (below_set (below_set (HB.out) hq) hq) hq) hq) hq⟩
    have SZ18 := Aside0.mk (show w17.heap.size ≤ w18.heap.size from hs.1)
    clear q0_ q1_ q2_ q3_ q4_ q5_ q6_ q7_ q8_ q9_ q10_ q11_ q12_ q13_ q14_ q15_
    clear hs hw hq
    obtain ⟨⟨hcg10_0, hfg10_0⟩, ⟨hcg10_1, hfg10_1⟩, ⟨hcg10_2, hfg10_2⟩, ⟨hcg10_3, hfg10_3⟩, ⟨hcg10_4, hfg10_4⟩⟩ := cells5 BKg10.out
    obtain ⟨⟨hcg16_0, hfg16_0⟩, ⟨hcg16_1, hfg16_1⟩, ⟨hcg16_2, hfg16_2⟩, ⟨hcg16_3, hfg16_3⟩, ⟨hcg16_4, hfg16_4⟩⟩ := cells5 BKg16.out
    (try clear hcg10_0 hfg10_0 hcg10_1 hfg10_1 hcg10_2 hfg10_2 hcg10_3 hfg10_3 hcg10_4 hfg10_4)
    (try clear hcg16_0 hfg16_0 hcg16_1 hfg16_1 hcg16_2 hfg16_2 hcg16_3 hfg16_3 hcg16_4 hfg16_4)
    obtain ⟨⟨hcg4_0, hfg4_0⟩, ⟨hcg4_1, hfg4_1⟩, ⟨hcg4_2, hfg4_2⟩, ⟨hcg4_3, hfg4_3⟩, ⟨hcg4_4, hfg4_4⟩⟩ := cells5 BKg4.out
    obtain ⟨⟨hcg10_0, hfg10_0⟩, ⟨hcg10_1, hfg10_1⟩, ⟨hcg10_2, hfg10_2⟩, ⟨hcg10_3, hfg10_3⟩, ⟨hcg10_4, hfg10_4⟩⟩ := cells5 BKg10.out
    obtain ⟨⟨hcg12_0, hfg12_0⟩, ⟨hcg12_1, hfg12_1⟩, ⟨hcg12_2, hfg12_2⟩, ⟨hcg12_3, hfg12_3⟩⟩ := cells4 BKg12.out
    have tok14 : True := trivial
    go_wp2_with (first | (have _ := tok14; go_at_call 16; (with_reducible refine (image_Wiped.calls k a b c d x_A x_c sl drv u0 u1 u2 u3 us e3 _ ?s1 (Kd.S_reads' HOx.out).2.1 HWI.out).mono ?_); (case s1 => exact (Kd.S_reads' (Kd.S_below HOx.out (by repeat (first | exact Below.refl _ _ | apply below_alloc | apply pw_below_drewN | apply below_drew1)))).2.2); rintro e w19 ⟨v_u, rfl, ho, hb⟩; (try clear hcg4_0 hfg4_0 hcg4_1 hfg4_1 hcg4_2 hfg4_2 hcg4_3 hfg4_3 hcg4_4 hfg4_4); (try clear hcg10_0 hfg10_0 hcg10_1 hfg10_1 hcg10_2 hfg10_2 hcg10_3 hfg10_3 hcg10_4 hfg10_4); (try clear hcg12_0 hfg12_0 hcg12_1 hfg12_1 hcg12_2 hfg12_2 hcg12_3 hfg12_3); have hs : Below w18.heap.size w18 w19 := below_step (by repeat (first | exact Below.refl _ _ | apply below_alloc | apply pw_below_drewN | apply below_drew1)) hb; have hl : w18.heap.size ≤ _ := below_size (w := w18) (by repeat (first | exact Below.refl _ _ | apply below_alloc | apply pw_below_drewN | apply below_drew1)); have SZ19 := Aside0.mk (show w18.heap.size ≤ w19.heap.size from hs.size); replace BKg4 := bb BKg4 hs; replace HOx := sb HOx hs; replace BKg10 := bb BKg10 hs; replace HOy := sb HOy hs; replace BKg12 := bb BKg12 hs; replace BKg13 := bb BKg13 hs; replace HOp := sb HOp hs; replace BKg14 := bb BKg14 hs; replace HOq := sb HOq hs; replace BKg16 := bb BKg16 hs; have HOu := Aside0.mk (S_iv ho (below_size (by repeat (first | exact HB.out | apply below_alloc | apply pw_below_drewN | apply below_drew1))) hl); replace HB := hbs HB hs; clear ho; obtain ⟨u_A, u_c, e_⟩ := Kd.S_slice HOu.out; subst e_; clear hb hs; (try clear hl); obtain ⟨⟨hcg4_0, hfg4_0⟩, ⟨hcg4_1, hfg4_1⟩, ⟨hcg4_2, hfg4_2⟩, ⟨hcg4_3, hfg4_3⟩, ⟨hcg4_4, hfg4_4⟩⟩ := cells5 BKg4.out; obtain ⟨⟨hcg10_0, hfg10_0⟩, ⟨hcg10_1, hfg10_1⟩, ⟨hcg10_2, hfg10_2⟩, ⟨hcg10_3, hfg10_3⟩, ⟨hcg10_4, hfg10_4⟩⟩ := cells5 BKg10.out; obtain ⟨⟨hcg12_0, hfg12_0⟩, ⟨hcg12_1, hfg12_1⟩, ⟨hcg12_2, hfg12_2⟩, ⟨hcg12_3, hfg12_3⟩⟩ := cells4 BKg12.out; clear tok14; have tok15 : True := trivial) | (have _ := tok15; (with_reducible refine gate_dst (N := 18) rfl ?_); refine box_event ?hg (N := 18) ?hd (cs := #[.int .i64 0, .int .i64 0, .int .i64 0, .int .i64 0, .slice none 0 0]) (t := 27) ?hr ?_; (case hd => rfl); (case hg => rfl); (case hr => first | (go_simp; done) | (go_simp; rfl)); intro g18 hg w20 hbox hb; have hs : Below w19.heap.size w19 w20 := below_step (by repeat (first | exact Below.refl _ _ | apply below_alloc | apply pw_below_drewN | apply below_drew1)) hb; have SZ20 := Aside0.mk (show w19.heap.size ≤ g18 ∧ g18 < w20.heap.size from ⟨by rw [hg]; exact (below_size (by repeat (first | exact Below.refl _ _ | apply below_alloc | apply pw_below_drewN | apply below_drew1))), blk_lt hbox⟩); (try clear hcg4_0 hfg4_0 hcg4_1 hfg4_1 hcg4_2 hfg4_2 hcg4_3 hfg4_3 hcg4_4 hfg4_4); (try clear hcg10_0 hfg10_0 hcg10_1 hfg10_1 hcg10_2 hfg10_2 hcg10_3 hfg10_3 hcg10_4 hfg10_4); (try clear hcg12_0 hfg12_0 hcg12_1 hfg12_1 hcg12_2 hfg12_2 hcg12_3 hfg12_3); replace BKg4 := bb BKg4 hs; replace HOx := sb HOx hs; replace BKg10 := bb BKg10 hs; replace HOy := sb HOy hs; replace BKg12 := bb BKg12 hs; replace BKg13 := bb BKg13 hs; replace HOp := sb HOp hs; replace BKg14 := bb BKg14 hs; replace HOq := sb HOq hs; replace BKg16 := bb BKg16 hs; replace HOu := sb HOu hs; replace HB := hbs HB hs; have q0_ := SZ1.out; have q1_ := SZ2.out; have q2_ := SZ3.out; have q3_ := SZ4.out; have q4_ := SZ5.out; have q5_ := SZ6.out; have q6_ := SZ7.out; have q7_ := SZ8.out; have q8_ := SZ9.out; have q9_ := SZ10.out; have q10_ := SZc.out; have q11_ := SZ13.out; have q12_ := SZ14.out; have q13_ := SZ15.out; have q14_ := SZ16.out; have q15_ := SZ17.out; have q16_ := SZ18.out; have q17_ := SZ19.out; have q18_ := SZ20.out; have hneg4_g18 : g4 ≠ g18 := (by omega); have hneg18_g4 := hneg4_g18.symm; have hneg10_g18 : g10 ≠ g18 := (by omega); have hneg18_g10 := hneg10_g18.symm; have hneg12_g18 : g12 ≠ g18 := (by omega); have hneg18_g12 := hneg12_g18.symm; have hneg13_g18 : g13 ≠ g18 := (by omega); have hneg18_g13 := hneg13_g18.symm; have hneg14_g18 : g14 ≠ g18 := (by omega); have hneg18_g14 := hneg14_g18.symm; have hneg16_g18 : g16 ≠ g18 := (by omega); have hneg18_g16 := hneg16_g18.symm; clear q0_ q1_ q2_ q3_ q4_ q5_ q6_ q7_ q8_ q9_ q10_ q11_ q12_ q13_ q14_ q15_ q16_ q17_ q18_; have BKg18 := Aside0.mk hbox; clear hb hbox hg hs; obtain ⟨⟨hcg4_0, hfg4_0⟩, ⟨hcg4_1, hfg4_1⟩, ⟨hcg4_2, hfg4_2⟩, ⟨hcg4_3, hfg4_3⟩, ⟨hcg4_4, hfg4_4⟩⟩ := cells5 BKg4.out; obtain ⟨⟨hcg10_0, hfg10_0⟩, ⟨hcg10_1, hfg10_1⟩, ⟨hcg10_2, hfg10_2⟩, ⟨hcg10_3, hfg10_3⟩, ⟨hcg10_4, hfg10_4⟩⟩ := cells5 BKg10.out; obtain ⟨⟨hcg12_0, hfg12_0⟩, ⟨hcg12_1, hfg12_1⟩, ⟨hcg12_2, hfg12_2⟩, ⟨hcg12_3, hfg12_3⟩⟩ := cells4 BKg12.out; obtain ⟨⟨hcg18_0, hfg18_0⟩, ⟨hcg18_1, hfg18_1⟩, ⟨hcg18_2, hfg18_2⟩, ⟨hcg18_3, hfg18_3⟩, ⟨hcg18_4, hfg18_4⟩⟩ := cells5 BKg18.out; clear tok15))
    (try clear hcg4_0 hfg4_0 hcg4_1 hfg4_1 hcg4_2 hfg4_2 hcg4_3 hfg4_3 hcg4_4 hfg4_4)
    (try clear hcg10_0 hfg10_0 hcg10_1 hfg10_1 hcg10_2 hfg10_2 hcg10_3 hfg10_3 hcg10_4 hfg10_4)
    (try clear hcg12_0 hfg12_0 hcg12_1 hfg12_1 hcg12_2 hfg12_2 hcg12_3 hfg12_3)
    (try clear hcg18_0 hfg18_0 hcg18_1 hfg18_1 hcg18_2 hfg18_2 hcg18_3 hfg18_3 hcg18_4 hfg18_4)
    have q0_ := SZ1.out
    have q1_ := SZ2.out
    have q2_ := SZ3.out
    have q3_ := SZ4.out
    have q4_ := SZ5.out
    have q5_ := SZ6.out
    have q6_ := SZ7.out
    have q7_ := SZ8.out
    have q8_ := SZ9.out
    have q9_ := SZ10.out
    have q10_ := SZc.out
    have q11_ := SZ13.out
    have q12_ := SZ14.out
    have q13_ := SZ15.out
    have q14_ := SZ16.out
    have q15_ := SZ17.out
    have q16_ := SZ18.out
    have q17_ := SZ19.out
    have q18_ := SZ20.out
    generalize hw : (((((w20.setCell ⟨g18, 0, none⟩ (.int .i64 u0)).setCell ⟨g18, 1, none⟩ (.int .i64 u1)).setCell ⟨g18, 2, none⟩ (.int .i64 u2)).setCell ⟨g18, 3, none⟩ (.int .i64 u3)).setCell ⟨g18, 4, none⟩ (.slice u_A us.length u_c)) = w21
    have hs : Kept w20 w21 (Iv g18 (g18 + 1)) := by rw [← hw]; exact kput (kput (kput (kput (kput (Kept.refl _ _)))))
    replace BKg4 := kb BKg4 hs (Iv_out (by omega))
    replace HOx := sk HOx hs (Iv_apart (by omega))
    replace BKg10 := kb BKg10 hs (Iv_out (by omega))
    replace HOy := sk HOy hs (Iv_apart (by omega))
    replace BKg12 := kb BKg12 hs (Iv_out (by omega))
    replace BKg13 := kb BKg13 hs (Iv_out (by omega))
    replace HOp := sk HOp hs (Iv_apart (by omega))
    replace BKg14 := kb BKg14 hs (Iv_out (by omega))
    replace HOq := sk HOq hs (Iv_apart (by omega))
    replace BKg16 := kb BKg16 hs (Iv_out (by omega))
    replace HOu := sk HOu hs (Iv_apart (by omega))
    replace BKg18 : Aside0 (w21.heap[g18]? = some (.cells #[.int .i64 u0, .int .i64 u1, .int .i64 u2, .int .i64 u3, .slice u_A us.length u_c] 27 (0, 0))) := ⟨by rw [← hw]; exact blk_put (blk_put (blk_put (blk_put (blk_put (BKg18.out) 0 _ rfl) 1 _ rfl) 2 _ rfl) 3 _ rfl) 4 _ rfl⟩
    have hq : w.heap.size ≤ g18 := (by omega)
    replace HB : Aside0 (Below w.heap.size w w21) := ⟨by rw [← hw]; exact below_set (below_set (below_set (below_set (below_set (HB.out) hq) hq) hq) hq) hq⟩
    have SZ21 := Aside0.mk (show w20.heap.size ≤ w21.heap.size from hs.1)
    clear q0_ q1_ q2_ q3_ q4_ q5_ q6_ q7_ q8_ q9_ q10_ q11_ q12_ q13_ q14_ q15_ q16_ q17_ q18_
    clear hs hw hq
    obtain ⟨⟨hcg4_0, hfg4_0⟩, ⟨hcg4_1, hfg4_1⟩, ⟨hcg4_2, hfg4_2⟩, ⟨hcg4_3, hfg4_3⟩, ⟨hcg4_4, hfg4_4⟩⟩ := cells5 BKg4.out
    obtain ⟨⟨hcg10_0, hfg10_0⟩, ⟨hcg10_1, hfg10_1⟩, ⟨hcg10_2, hfg10_2⟩, ⟨hcg10_3, hfg10_3⟩, ⟨hcg10_4, hfg10_4⟩⟩ := cells5 BKg10.out
    obtain ⟨⟨hcg12_0, hfg12_0⟩, ⟨hcg12_1, hfg12_1⟩, ⟨hcg12_2, hfg12_2⟩, ⟨hcg12_3, hfg12_3⟩⟩ := cells4 BKg12.out
    obtain ⟨⟨hcg18_0, hfg18_0⟩, ⟨hcg18_1, hfg18_1⟩, ⟨hcg18_2, hfg18_2⟩, ⟨hcg18_3, hfg18_3⟩, ⟨hcg18_4, hfg18_4⟩⟩ := cells5 BKg18.out
    (try clear hcg4_0 hfg4_0 hcg4_1 hfg4_1 hcg4_2 hfg4_2 hcg4_3 hfg4_3 hcg4_4 hfg4_4)
    (try clear hcg10_0 hfg10_0 hcg10_1 hfg10_1 hcg10_2 hfg10_2 hcg10_3 hfg10_3 hcg10_4 hfg10_4)
    (try clear hcg12_0 hfg12_0 hcg12_1 hfg12_1 hcg12_2 hfg12_2 hcg12_3 hfg12_3)
    (try clear hcg18_0 hfg18_0 hcg18_1 hfg18_1 hcg18_2 hfg18_2 hcg18_3 hfg18_3 hcg18_4 hfg18_4)
    obtain ⟨⟨hcg4_0, hfg4_0⟩, ⟨hcg4_1, hfg4_1⟩, ⟨hcg4_2, hfg4_2⟩, ⟨hcg4_3, hfg4_3⟩, ⟨hcg4_4, hfg4_4⟩⟩ := cells5 BKg4.out
    obtain ⟨⟨hcg12_0, hfg12_0⟩, ⟨hcg12_1, hfg12_1⟩, ⟨hcg12_2, hfg12_2⟩, ⟨hcg12_3, hfg12_3⟩⟩ := cells4 BKg12.out
    have tok16 : True := trivial
    go_wp2_with (first | (have _ := tok16; go_at_call 23; (with_reducible refine (twoslotref09_Put.calls k a b c d Am cm sl z.f0 z.f1 z.f2 (fun q => q < w.heap.size) lB lc z.f3 p0 p1 p2 p3 ps e1 _ ?s1 HCM.out ?s2 RPU.out).mono ?_); (case s1 => exact Kd.C_below HCm.out (by repeat (first | exact HB.out | apply below_alloc | apply pw_below_drewN | apply below_drew1))); (case s2 => exact V_came LC.out LLE.out (by repeat (first | exact HB.out | apply below_alloc | apply pw_below_drewN | apply below_drew1))); rintro e w22 ⟨v_rp, rfl, ho, hb⟩; (try clear hcg4_0 hfg4_0 hcg4_1 hfg4_1 hcg4_2 hfg4_2 hcg4_3 hfg4_3 hcg4_4 hfg4_4); (try clear hcg12_0 hfg12_0 hcg12_1 hfg12_1 hcg12_2 hfg12_2 hcg12_3 hfg12_3); have hs : Below w21.heap.size w21 w22 := below_step (by repeat (first | exact Below.refl _ _ | apply below_alloc | apply pw_below_drewN | apply below_drew1)) hb; have hl : w21.heap.size ≤ _ := below_size (w := w21) (by repeat (first | exact Below.refl _ _ | apply below_alloc | apply pw_below_drewN | apply below_drew1)); have SZ22 := Aside0.mk (show w21.heap.size ≤ w22.heap.size from hs.size); replace BKg4 := bb BKg4 hs; replace HOx := sb HOx hs; replace BKg10 := bb BKg10 hs; replace HOy := sb HOy hs; replace BKg12 := bb BKg12 hs; replace BKg13 := bb BKg13 hs; replace HOp := sb HOp hs; replace BKg14 := bb BKg14 hs; replace HOq := sb HOq hs; replace BKg16 := bb BKg16 hs; replace HOu := sb HOu hs; replace BKg18 := bb BKg18 hs; have HOrp := Aside0.mk (N_ivw (lo := w21.heap.size) ho (fun k_ hk_ => hk_.imp_right (fun h_ => Nat.le_trans hl h_))); replace HB := hbs HB hs; clear ho; obtain ⟨rp_A, rp_c, e_⟩ := Kd.N_slice HOrp.out; subst e_; clear hb hs; (try clear hl); obtain ⟨⟨hcg4_0, hfg4_0⟩, ⟨hcg4_1, hfg4_1⟩, ⟨hcg4_2, hfg4_2⟩, ⟨hcg4_3, hfg4_3⟩, ⟨hcg4_4, hfg4_4⟩⟩ := cells5 BKg4.out; obtain ⟨⟨hcg12_0, hfg12_0⟩, ⟨hcg12_1, hfg12_1⟩, ⟨hcg12_2, hfg12_2⟩, ⟨hcg12_3, hfg12_3⟩⟩ := cells4 BKg12.out; clear tok16; have tok17 : True := trivial) | (have _ := tok17; (with_reducible refine gate_dst (N := 20) rfl ?_); refine box_event ?hg (N := 20) ?hd (cs := #[.int .i64 0, .int .i64 0, .int .i64 0, .int .i64 0, .slice none 0 0]) (t := 27) ?hr ?_; (case hd => rfl); (case hg => rfl); (case hr => first | (go_simp; done) | (go_simp; rfl)); intro g20 hg w23 hbox hb; have hs : Below w22.heap.size w22 w23 := below_step (by repeat (first | exact Below.refl _ _ | apply below_alloc | apply pw_below_drewN | apply below_drew1)) hb; have SZ23 := Aside0.mk (show w22.heap.size ≤ g20 ∧ g20 < w23.heap.size from ⟨by rw [hg]; exact (below_size (by repeat (first | exact Below.refl _ _ | apply below_alloc | apply pw_below_drewN | apply below_drew1))), blk_lt hbox⟩); (try clear hcg4_0 hfg4_0 hcg4_1 hfg4_1 hcg4_2 hfg4_2 hcg4_3 hfg4_3 hcg4_4 hfg4_4); (try clear hcg12_0 hfg12_0 hcg12_1 hfg12_1 hcg12_2 hfg12_2 hcg12_3 hfg12_3); replace BKg4 := bb BKg4 hs; replace HOx := sb HOx hs; replace BKg10 := bb BKg10 hs; replace HOy := sb HOy hs; replace BKg12 := bb BKg12 hs; replace BKg13 := bb BKg13 hs; replace HOp := sb HOp hs; replace BKg14 := bb BKg14 hs; replace HOq := sb HOq hs; replace BKg16 := bb BKg16 hs; replace HOu := sb HOu hs; replace BKg18 := bb BKg18 hs; replace HOrp := Aside0.mk (Kd.N_below HOrp.out hs); replace HB := hbs HB hs; have q0_ := SZ1.out; have q1_ := SZ2.out; have q2_ := SZ3.out; have q3_ := SZ4.out; have q4_ := SZ5.out; have q5_ := SZ6.out; have q6_ := SZ7.out; have q7_ := SZ8.out; have q8_ := SZ9.out; have q9_ := SZ10.out; have q10_ := SZc.out; have q11_ := SZ13.out; have q12_ := SZ14.out; have q13_ := SZ15.out; have q14_ := SZ16.out; have q15_ := SZ17.out; have q16_ := SZ18.out; have q17_ := SZ19.out; have q18_ := SZ20.out; have q19_ := SZ21.out; have q20_ := SZ22.out; have q21_ := SZ23.out; have hneg4_g20 : g4 ≠ g20 := (by omega); have hneg20_g4 := hneg4_g20.symm; have hneg10_g20 : g10 ≠ g20 := (by omega); have hneg20_g10 := hneg10_g20.symm; have hneg12_g20 : g12 ≠ g20 := (by omega); have hneg20_g12 := hneg12_g20.symm; have hneg13_g20 : g13 ≠ g20 := (by omega); have hneg20_g13 := hneg13_g20.symm; have hneg14_g20 : g14 ≠ g20 := (by omega); have hneg20_g14 := hneg14_g20.symm; have hneg16_g20 : g16 ≠ g20 := (by omega); have hneg20_g16 := hneg16_g20.symm; have hneg18_g20 : g18 ≠ g20 := (by omega); have hneg20_g18 := hneg18_g20.symm; clear q0_ q1_ q2_ q3_ q4_ q5_ q6_ q7_ q8_ q9_ q10_ q11_ q12_ q13_ q14_ q15_ q16_ q17_ q18_ q19_ q20_ q21_; have BKg20 := Aside0.mk hbox; clear hb hbox hg hs; obtain ⟨⟨hcg4_0, hfg4_0⟩, ⟨hcg4_1, hfg4_1⟩, ⟨hcg4_2, hfg4_2⟩, ⟨hcg4_3, hfg4_3⟩, ⟨hcg4_4, hfg4_4⟩⟩ := cells5 BKg4.out; obtain ⟨⟨hcg12_0, hfg12_0⟩, ⟨hcg12_1, hfg12_1⟩, ⟨hcg12_2, hfg12_2⟩, ⟨hcg12_3, hfg12_3⟩⟩ := cells4 BKg12.out; obtain ⟨⟨hcg20_0, hfg20_0⟩, ⟨hcg20_1, hfg20_1⟩, ⟨hcg20_2, hfg20_2⟩, ⟨hcg20_3, hfg20_3⟩, ⟨hcg20_4, hfg20_4⟩⟩ := cells5 BKg20.out; clear tok17))
    (try clear hcg4_0 hfg4_0 hcg4_1 hfg4_1 hcg4_2 hfg4_2 hcg4_3 hfg4_3 hcg4_4 hfg4_4)
    (try clear hcg12_0 hfg12_0 hcg12_1 hfg12_1 hcg12_2 hfg12_2 hcg12_3 hfg12_3)
    (try clear hcg20_0 hfg20_0 hcg20_1 hfg20_1 hcg20_2 hfg20_2 hcg20_3 hfg20_3 hcg20_4 hfg20_4)
    have q0_ := SZ1.out
    have q1_ := SZ2.out
    have q2_ := SZ3.out
    have q3_ := SZ4.out
    have q4_ := SZ5.out
    have q5_ := SZ6.out
    have q6_ := SZ7.out
    have q7_ := SZ8.out
    have q8_ := SZ9.out
    have q9_ := SZ10.out
    have q10_ := SZc.out
    have q11_ := SZ13.out
    have q12_ := SZ14.out
    have q13_ := SZ15.out
    have q14_ := SZ16.out
    have q15_ := SZ17.out
    have q16_ := SZ18.out
    have q17_ := SZ19.out
    have q18_ := SZ20.out
    have q19_ := SZ21.out
    have q20_ := SZ22.out
    have q21_ := SZ23.out
    generalize hw : (((((w23.setCell ⟨g20, 0, none⟩ (.int .i64 p0)).setCell ⟨g20, 1, none⟩ (.int .i64 p1)).setCell ⟨g20, 2, none⟩ (.int .i64 p2)).setCell ⟨g20, 3, none⟩ (.int .i64 p3)).setCell ⟨g20, 4, none⟩ (.slice rp_A ps.length rp_c)) = w24
    have hs : Kept w23 w24 (Iv g20 (g20 + 1)) := by rw [← hw]; exact kput (kput (kput (kput (kput (Kept.refl _ _)))))
    replace BKg4 := kb BKg4 hs (Iv_out (by omega))
    replace HOx := sk HOx hs (Iv_apart (by omega))
    replace BKg10 := kb BKg10 hs (Iv_out (by omega))
    replace HOy := sk HOy hs (Iv_apart (by omega))
    replace BKg12 := kb BKg12 hs (Iv_out (by omega))
    replace BKg13 := kb BKg13 hs (Iv_out (by omega))
    replace HOp := sk HOp hs (Iv_apart (by omega))
    replace BKg14 := kb BKg14 hs (Iv_out (by omega))
    replace HOq := sk HOq hs (Iv_apart (by omega))
    replace BKg16 := kb BKg16 hs (Iv_out (by omega))
    replace HOu := sk HOu hs (Iv_apart (by omega))
    replace BKg18 := kb BKg18 hs (Iv_out (by omega))
    replace HOrp := Aside0.mk (Kd.N_kept HOrp.out hs (Ivw_apart (by omega)))
    replace BKg20 : Aside0 (w24.heap[g20]? = some (.cells #[.int .i64 p0, .int .i64 p1, .int .i64 p2, .int .i64 p3, .slice rp_A ps.length rp_c] 27 (0, 0))) := ⟨by rw [← hw]; exact blk_put (blk_put (blk_put (blk_put (blk_put (BKg20.out) 0 _ rfl) 1 _ rfl) 2 _ rfl) 3 _ rfl) 4 _ rfl⟩
    have hq : w.heap.size ≤ g20 := (by omega)
    replace HB : Aside0 (Below w.heap.size w w24) := ⟨by rw [← hw]; exact below_set (below_set (below_set (below_set (below_set (HB.out) hq) hq) hq) hq) hq⟩
    have SZ24 := Aside0.mk (show w23.heap.size ≤ w24.heap.size from hs.1)
    clear q0_ q1_ q2_ q3_ q4_ q5_ q6_ q7_ q8_ q9_ q10_ q11_ q12_ q13_ q14_ q15_ q16_ q17_ q18_ q19_ q20_ q21_
    clear hs hw hq
    obtain ⟨⟨hcg4_0, hfg4_0⟩, ⟨hcg4_1, hfg4_1⟩, ⟨hcg4_2, hfg4_2⟩, ⟨hcg4_3, hfg4_3⟩, ⟨hcg4_4, hfg4_4⟩⟩ := cells5 BKg4.out
    obtain ⟨⟨hcg12_0, hfg12_0⟩, ⟨hcg12_1, hfg12_1⟩, ⟨hcg12_2, hfg12_2⟩, ⟨hcg12_3, hfg12_3⟩⟩ := cells4 BKg12.out
    obtain ⟨⟨hcg20_0, hfg20_0⟩, ⟨hcg20_1, hfg20_1⟩, ⟨hcg20_2, hfg20_2⟩, ⟨hcg20_3, hfg20_3⟩, ⟨hcg20_4, hfg20_4⟩⟩ := cells5 BKg20.out
    (try clear hcg4_0 hfg4_0 hcg4_1 hfg4_1 hcg4_2 hfg4_2 hcg4_3 hfg4_3 hcg4_4 hfg4_4)
    (try clear hcg12_0 hfg12_0 hcg12_1 hfg12_1 hcg12_2 hfg12_2 hcg12_3 hfg12_3)
    (try clear hcg20_0 hfg20_0 hcg20_1 hfg20_1 hcg20_2 hfg20_2 hcg20_3 hfg20_3 hcg20_4 hfg20_4)
    obtain ⟨⟨hcg4_0, hfg4_0⟩, ⟨hcg4_1, hfg4_1⟩, ⟨hcg4_2, hfg4_2⟩, ⟨hcg4_3, hfg4_3⟩, ⟨hcg4_4, hfg4_4⟩⟩ := cells5 BKg4.out
    have tok18 : True := trivial
    go_wp2_with (first | (have _ := tok18; go_at_call 24; (with_reducible refine (twoslotref09_After.calls k a b c d Am cm sl Al cl l n q0 q1 q2 q3 qs e2 _ ?s1 HCM.out ?s2 HCL.out RAF.out).mono ?_); (case s1 => exact Kd.C_below HCm.out (by repeat (first | exact HB.out | apply below_alloc | apply pw_below_drewN | apply below_drew1))); (case s2 => exact Kd.C_below HCl.out (by repeat (first | exact HB.out | apply below_alloc | apply pw_below_drewN | apply below_drew1))); rintro e w25 ⟨v_rq, rfl, ho, hb⟩; (try clear hcg4_0 hfg4_0 hcg4_1 hfg4_1 hcg4_2 hfg4_2 hcg4_3 hfg4_3 hcg4_4 hfg4_4); have hs : Below w24.heap.size w24 w25 := below_step (by repeat (first | exact Below.refl _ _ | apply below_alloc | apply pw_below_drewN | apply below_drew1)) hb; have hl : w24.heap.size ≤ _ := below_size (w := w24) (by repeat (first | exact Below.refl _ _ | apply below_alloc | apply pw_below_drewN | apply below_drew1)); have SZ25 := Aside0.mk (show w24.heap.size ≤ w25.heap.size from hs.size); replace BKg4 := bb BKg4 hs; replace HOx := sb HOx hs; replace BKg10 := bb BKg10 hs; replace HOy := sb HOy hs; replace BKg12 := bb BKg12 hs; replace BKg13 := bb BKg13 hs; replace HOp := sb HOp hs; replace BKg14 := bb BKg14 hs; replace HOq := sb HOq hs; replace BKg16 := bb BKg16 hs; replace HOu := sb HOu hs; replace BKg18 := bb BKg18 hs; replace HOrp := Aside0.mk (Kd.N_below HOrp.out hs); replace BKg20 := bb BKg20 hs; have HOrq := Aside0.mk (N_ivw (b := w.heap.size) (lo := w24.heap.size) ho (fun k_ hk_ => .inr (Nat.le_trans hl hk_))); replace HB := hbs HB hs; clear ho; obtain ⟨rq_A, rq_c, e_⟩ := Kd.N_slice HOrq.out; subst e_; clear hb hs; (try clear hl); obtain ⟨⟨hcg4_0, hfg4_0⟩, ⟨hcg4_1, hfg4_1⟩, ⟨hcg4_2, hfg4_2⟩, ⟨hcg4_3, hfg4_3⟩, ⟨hcg4_4, hfg4_4⟩⟩ := cells5 BKg4.out; clear tok18; have tok19 : True := trivial) | (have _ := tok19; (with_reducible refine gate_dst (N := 22) rfl ?_); refine box_event ?hg (N := 22) ?hd (cs := #[.int .i64 0, .int .i64 0, .int .i64 0, .int .i64 0, .slice none 0 0]) (t := 27) ?hr ?_; (case hd => rfl); (case hg => rfl); (case hr => first | (go_simp; done) | (go_simp; rfl)); intro g22 hg w26 hbox hb; have hs : Below w25.heap.size w25 w26 := below_step (by repeat (first | exact Below.refl _ _ | apply below_alloc | apply pw_below_drewN | apply below_drew1)) hb; have SZ26 := Aside0.mk (show w25.heap.size ≤ g22 ∧ g22 < w26.heap.size from ⟨by rw [hg]; exact (below_size (by repeat (first | exact Below.refl _ _ | apply below_alloc | apply pw_below_drewN | apply below_drew1))), blk_lt hbox⟩); (try clear hcg4_0 hfg4_0 hcg4_1 hfg4_1 hcg4_2 hfg4_2 hcg4_3 hfg4_3 hcg4_4 hfg4_4); replace BKg4 := bb BKg4 hs; replace HOx := sb HOx hs; replace BKg10 := bb BKg10 hs; replace HOy := sb HOy hs; replace BKg12 := bb BKg12 hs; replace BKg13 := bb BKg13 hs; replace HOp := sb HOp hs; replace BKg14 := bb BKg14 hs; replace HOq := sb HOq hs; replace BKg16 := bb BKg16 hs; replace HOu := sb HOu hs; replace BKg18 := bb BKg18 hs; replace HOrp := Aside0.mk (Kd.N_below HOrp.out hs); replace BKg20 := bb BKg20 hs; replace HOrq := Aside0.mk (Kd.N_below HOrq.out hs); replace HB := hbs HB hs; have q0_ := SZ1.out; have q1_ := SZ2.out; have q2_ := SZ3.out; have q3_ := SZ4.out; have q4_ := SZ5.out; have q5_ := SZ6.out; have q6_ := SZ7.out; have q7_ := SZ8.out; have q8_ := SZ9.out; have q9_ := SZ10.out; have q10_ := SZc.out; have q11_ := SZ13.out; have q12_ := SZ14.out; have q13_ := SZ15.out; have q14_ := SZ16.out; have q15_ := SZ17.out; have q16_ := SZ18.out; have q17_ := SZ19.out; have q18_ := SZ20.out; have q19_ := SZ21.out; have q20_ := SZ22.out; have q21_ := SZ23.out; have q22_ := SZ24.out; have q23_ := SZ25.out; have q24_ := SZ26.out; have hneg4_g22 : g4 ≠ g22 := (by omega); have hneg22_g4 := hneg4_g22.symm; have hneg10_g22 : g10 ≠ g22 := (by omega); have hneg22_g10 := hneg10_g22.symm; have hneg12_g22 : g12 ≠ g22 := (by omega); have hneg22_g12 := hneg12_g22.symm; have hneg13_g22 : g13 ≠ g22 := (by omega); have hneg22_g13 := hneg13_g22.symm; have hneg14_g22 : g14 ≠ g22 := (by omega); have hneg22_g14 := hneg14_g22.symm; have hneg16_g22 : g16 ≠ g22 := (by omega); have hneg22_g16 := hneg16_g22.symm; have hneg18_g22 : g18 ≠ g22 := (by omega); have hneg22_g18 := hneg18_g22.symm; have hneg20_g22 : g20 ≠ g22 := (by omega); have hneg22_g20 := hneg20_g22.symm; clear q0_ q1_ q2_ q3_ q4_ q5_ q6_ q7_ q8_ q9_ q10_ q11_ q12_ q13_ q14_ q15_ q16_ q17_ q18_ q19_ q20_ q21_ q22_ q23_ q24_; have BKg22 := Aside0.mk hbox; clear hb hbox hg hs; obtain ⟨⟨hcg4_0, hfg4_0⟩, ⟨hcg4_1, hfg4_1⟩, ⟨hcg4_2, hfg4_2⟩, ⟨hcg4_3, hfg4_3⟩, ⟨hcg4_4, hfg4_4⟩⟩ := cells5 BKg4.out; obtain ⟨⟨hcg22_0, hfg22_0⟩, ⟨hcg22_1, hfg22_1⟩, ⟨hcg22_2, hfg22_2⟩, ⟨hcg22_3, hfg22_3⟩, ⟨hcg22_4, hfg22_4⟩⟩ := cells5 BKg22.out; clear tok19))
    (try clear hcg4_0 hfg4_0 hcg4_1 hfg4_1 hcg4_2 hfg4_2 hcg4_3 hfg4_3 hcg4_4 hfg4_4)
    (try clear hcg22_0 hfg22_0 hcg22_1 hfg22_1 hcg22_2 hfg22_2 hcg22_3 hfg22_3 hcg22_4 hfg22_4)
    have q0_ := SZ1.out
    have q1_ := SZ2.out
    have q2_ := SZ3.out
    have q3_ := SZ4.out
    have q4_ := SZ5.out
    have q5_ := SZ6.out
    have q6_ := SZ7.out
    have q7_ := SZ8.out
    have q8_ := SZ9.out
    have q9_ := SZ10.out
    have q10_ := SZc.out
    have q11_ := SZ13.out
    have q12_ := SZ14.out
    have q13_ := SZ15.out
    have q14_ := SZ16.out
    have q15_ := SZ17.out
    have q16_ := SZ18.out
    have q17_ := SZ19.out
    have q18_ := SZ20.out
    have q19_ := SZ21.out
    have q20_ := SZ22.out
    have q21_ := SZ23.out
    have q22_ := SZ24.out
    have q23_ := SZ25.out
    have q24_ := SZ26.out
    generalize hw : (((((w26.setCell ⟨g22, 0, none⟩ (.int .i64 q0)).setCell ⟨g22, 1, none⟩ (.int .i64 q1)).setCell ⟨g22, 2, none⟩ (.int .i64 q2)).setCell ⟨g22, 3, none⟩ (.int .i64 q3)).setCell ⟨g22, 4, none⟩ (.slice rq_A qs.length rq_c)) = w27
    have hs : Kept w26 w27 (Iv g22 (g22 + 1)) := by rw [← hw]; exact kput (kput (kput (kput (kput (Kept.refl _ _)))))
    replace BKg4 := kb BKg4 hs (Iv_out (by omega))
    replace HOx := sk HOx hs (Iv_apart (by omega))
    replace BKg10 := kb BKg10 hs (Iv_out (by omega))
    replace HOy := sk HOy hs (Iv_apart (by omega))
    replace BKg12 := kb BKg12 hs (Iv_out (by omega))
    replace BKg13 := kb BKg13 hs (Iv_out (by omega))
    replace HOp := sk HOp hs (Iv_apart (by omega))
    replace BKg14 := kb BKg14 hs (Iv_out (by omega))
    replace HOq := sk HOq hs (Iv_apart (by omega))
    replace BKg16 := kb BKg16 hs (Iv_out (by omega))
    replace HOu := sk HOu hs (Iv_apart (by omega))
    replace BKg18 := kb BKg18 hs (Iv_out (by omega))
    replace HOrp := Aside0.mk (Kd.N_kept HOrp.out hs (Ivw_apart (by omega)))
    replace BKg20 := kb BKg20 hs (Iv_out (by omega))
    replace HOrq := Aside0.mk (Kd.N_kept HOrq.out hs (Ivw_apart (by omega)))
    replace BKg22 : Aside0 (w27.heap[g22]? = some (.cells #[.int .i64 q0, .int .i64 q1, .int .i64 q2, .int .i64 q3, .slice rq_A qs.length rq_c] 27 (0, 0))) := ⟨by rw [← hw]; exact blk_put (blk_put (blk_put (blk_put (blk_put (BKg22.out) 0 _ rfl) 1 _ rfl) 2 _ rfl) 3 _ rfl) 4 _ rfl⟩
    have hq : w.heap.size ≤ g22 := (by omega)
    replace HB : Aside0 (Below w.heap.size w w27) := ⟨by rw [← hw]; exact below_set (below_set (below_set (below_set (below_set (HB.out) hq) hq) hq) hq) hq⟩
    have SZ27 := Aside0.mk (show w26.heap.size ≤ w27.heap.size from hs.1)
    clear q0_ q1_ q2_ q3_ q4_ q5_ q6_ q7_ q8_ q9_ q10_ q11_ q12_ q13_ q14_ q15_ q16_ q17_ q18_ q19_ q20_ q21_ q22_ q23_ q24_
    clear hs hw hq
    obtain ⟨⟨hcg4_0, hfg4_0⟩, ⟨hcg4_1, hfg4_1⟩, ⟨hcg4_2, hfg4_2⟩, ⟨hcg4_3, hfg4_3⟩, ⟨hcg4_4, hfg4_4⟩⟩ := cells5 BKg4.out
    obtain ⟨⟨hcg22_0, hfg22_0⟩, ⟨hcg22_1, hfg22_1⟩, ⟨hcg22_2, hfg22_2⟩, ⟨hcg22_3, hfg22_3⟩, ⟨hcg22_4, hfg22_4⟩⟩ := cells5 BKg22.out
    (try clear hcg4_0 hfg4_0 hcg4_1 hfg4_1 hcg4_2 hfg4_2 hcg4_3 hfg4_3 hcg4_4 hfg4_4)
    (try clear hcg22_0 hfg22_0 hcg22_1 hfg22_1 hcg22_2 hfg22_2 hcg22_3 hfg22_3 hcg22_4 hfg22_4)
    obtain ⟨⟨hcg4_0, hfg4_0⟩, ⟨hcg4_1, hfg4_1⟩, ⟨hcg4_2, hfg4_2⟩, ⟨hcg4_3, hfg4_3⟩, ⟨hcg4_4, hfg4_4⟩⟩ := cells5 BKg4.out
    have tok20 : True := trivial
    go_wp2_with (first | (have _ := tok20; go_at_call 25; (with_reducible refine (twoslotref09_Wiped.calls k a b c d Am cm sl drv u0 u1 u2 u3 us e3 _ ?s1 HCM.out RWI.out).mono ?_); (case s1 => exact Kd.C_below HCm.out (by repeat (first | exact HB.out | apply below_alloc | apply pw_below_drewN | apply below_drew1))); rintro e w28 ⟨v_ru, rfl, ho, hb⟩; (try clear hcg4_0 hfg4_0 hcg4_1 hfg4_1 hcg4_2 hfg4_2 hcg4_3 hfg4_3 hcg4_4 hfg4_4); have hs : Below w27.heap.size w27 w28 := below_step (by repeat (first | exact Below.refl _ _ | apply below_alloc | apply pw_below_drewN | apply below_drew1)) hb; have hl : w27.heap.size ≤ _ := below_size (w := w27) (by repeat (first | exact Below.refl _ _ | apply below_alloc | apply pw_below_drewN | apply below_drew1)); have SZ28 := Aside0.mk (show w27.heap.size ≤ w28.heap.size from hs.size); replace BKg4 := bb BKg4 hs; replace HOx := sb HOx hs; replace BKg10 := bb BKg10 hs; replace HOy := sb HOy hs; replace BKg12 := bb BKg12 hs; replace BKg13 := bb BKg13 hs; replace HOp := sb HOp hs; replace BKg14 := bb BKg14 hs; replace HOq := sb HOq hs; replace BKg16 := bb BKg16 hs; replace HOu := sb HOu hs; replace BKg18 := bb BKg18 hs; replace HOrp := Aside0.mk (Kd.N_below HOrp.out hs); replace BKg20 := bb BKg20 hs; replace HOrq := Aside0.mk (Kd.N_below HOrq.out hs); replace BKg22 := bb BKg22 hs; have HOru := Aside0.mk (S_iv ho (below_size (by repeat (first | exact HB.out | apply below_alloc | apply pw_below_drewN | apply below_drew1))) hl); replace HB := hbs HB hs; clear ho; obtain ⟨ru_A, ru_c, e_⟩ := Kd.S_slice HOru.out; subst e_; clear hb hs; (try clear hl); obtain ⟨⟨hcg4_0, hfg4_0⟩, ⟨hcg4_1, hfg4_1⟩, ⟨hcg4_2, hfg4_2⟩, ⟨hcg4_3, hfg4_3⟩, ⟨hcg4_4, hfg4_4⟩⟩ := cells5 BKg4.out; clear tok20; have tok21 : True := trivial) | (have _ := tok21; (with_reducible refine gate_dst (N := 24) rfl ?_); refine box_event ?hg (N := 24) ?hd (cs := #[.int .i64 0, .int .i64 0, .int .i64 0, .int .i64 0, .slice none 0 0]) (t := 27) ?hr ?_; (case hd => rfl); (case hg => rfl); (case hr => first | (go_simp; done) | (go_simp; rfl)); intro g24 hg w29 hbox hb; have hs : Below w28.heap.size w28 w29 := below_step (by repeat (first | exact Below.refl _ _ | apply below_alloc | apply pw_below_drewN | apply below_drew1)) hb; have SZ29 := Aside0.mk (show w28.heap.size ≤ g24 ∧ g24 < w29.heap.size from ⟨by rw [hg]; exact (below_size (by repeat (first | exact Below.refl _ _ | apply below_alloc | apply pw_below_drewN | apply below_drew1))), blk_lt hbox⟩); (try clear hcg4_0 hfg4_0 hcg4_1 hfg4_1 hcg4_2 hfg4_2 hcg4_3 hfg4_3 hcg4_4 hfg4_4); replace BKg4 := bb BKg4 hs; replace HOx := sb HOx hs; replace BKg10 := bb BKg10 hs; replace HOy := sb HOy hs; replace BKg12 := bb BKg12 hs; replace BKg13 := bb BKg13 hs; replace HOp := sb HOp hs; replace BKg14 := bb BKg14 hs; replace HOq := sb HOq hs; replace BKg16 := bb BKg16 hs; replace HOu := sb HOu hs; replace BKg18 := bb BKg18 hs; replace HOrp := Aside0.mk (Kd.N_below HOrp.out hs); replace BKg20 := bb BKg20 hs; replace HOrq := Aside0.mk (Kd.N_below HOrq.out hs); replace BKg22 := bb BKg22 hs; replace HOru := sb HOru hs; replace HB := hbs HB hs; have q0_ := SZ1.out; have q1_ := SZ2.out; have q2_ := SZ3.out; have q3_ := SZ4.out; have q4_ := SZ5.out; have q5_ := SZ6.out; have q6_ := SZ7.out; have q7_ := SZ8.out; have q8_ := SZ9.out; have q9_ := SZ10.out; have q10_ := SZc.out; have q11_ := SZ13.out; have q12_ := SZ14.out; have q13_ := SZ15.out; have q14_ := SZ16.out; have q15_ := SZ17.out; have q16_ := SZ18.out; have q17_ := SZ19.out; have q18_ := SZ20.out; have q19_ := SZ21.out; have q20_ := SZ22.out; have q21_ := SZ23.out; have q22_ := SZ24.out; have q23_ := SZ25.out; have q24_ := SZ26.out; have q25_ := SZ27.out; have q26_ := SZ28.out; have q27_ := SZ29.out; have hneg4_g24 : g4 ≠ g24 := (by omega); have hneg24_g4 := hneg4_g24.symm; have hneg10_g24 : g10 ≠ g24 := (by omega); have hneg24_g10 := hneg10_g24.symm; have hneg12_g24 : g12 ≠ g24 := (by omega); have hneg24_g12 := hneg12_g24.symm; have hneg13_g24 : g13 ≠ g24 := (by omega); have hneg24_g13 := hneg13_g24.symm; have hneg14_g24 : g14 ≠ g24 := (by omega); have hneg24_g14 := hneg14_g24.symm; have hneg16_g24 : g16 ≠ g24 := (by omega); have hneg24_g16 := hneg16_g24.symm; have hneg18_g24 : g18 ≠ g24 := (by omega); have hneg24_g18 := hneg18_g24.symm; have hneg20_g24 : g20 ≠ g24 := (by omega); have hneg24_g20 := hneg20_g24.symm; have hneg22_g24 : g22 ≠ g24 := (by omega); have hneg24_g22 := hneg22_g24.symm; clear q0_ q1_ q2_ q3_ q4_ q5_ q6_ q7_ q8_ q9_ q10_ q11_ q12_ q13_ q14_ q15_ q16_ q17_ q18_ q19_ q20_ q21_ q22_ q23_ q24_ q25_ q26_ q27_; have BKg24 := Aside0.mk hbox; clear hb hbox hg hs; obtain ⟨⟨hcg4_0, hfg4_0⟩, ⟨hcg4_1, hfg4_1⟩, ⟨hcg4_2, hfg4_2⟩, ⟨hcg4_3, hfg4_3⟩, ⟨hcg4_4, hfg4_4⟩⟩ := cells5 BKg4.out; obtain ⟨⟨hcg24_0, hfg24_0⟩, ⟨hcg24_1, hfg24_1⟩, ⟨hcg24_2, hfg24_2⟩, ⟨hcg24_3, hfg24_3⟩, ⟨hcg24_4, hfg24_4⟩⟩ := cells5 BKg24.out; clear tok21))
    (try clear hcg4_0 hfg4_0 hcg4_1 hfg4_1 hcg4_2 hfg4_2 hcg4_3 hfg4_3 hcg4_4 hfg4_4)
    (try clear hcg24_0 hfg24_0 hcg24_1 hfg24_1 hcg24_2 hfg24_2 hcg24_3 hfg24_3 hcg24_4 hfg24_4)
    have q0_ := SZ1.out
    have q1_ := SZ2.out
    have q2_ := SZ3.out
    have q3_ := SZ4.out
    have q4_ := SZ5.out
    have q5_ := SZ6.out
    have q6_ := SZ7.out
    have q7_ := SZ8.out
    have q8_ := SZ9.out
    have q9_ := SZ10.out
    have q10_ := SZc.out
    have q11_ := SZ13.out
    have q12_ := SZ14.out
    have q13_ := SZ15.out
    have q14_ := SZ16.out
    have q15_ := SZ17.out
    have q16_ := SZ18.out
    have q17_ := SZ19.out
    have q18_ := SZ20.out
    have q19_ := SZ21.out
    have q20_ := SZ22.out
    have q21_ := SZ23.out
    have q22_ := SZ24.out
    have q23_ := SZ25.out
    have q24_ := SZ26.out
    have q25_ := SZ27.out
    have q26_ := SZ28.out
    have q27_ := SZ29.out
    generalize hw : (((((w29.setCell ⟨g24, 0, none⟩ (.int .i64 u0)).setCell ⟨g24, 1, none⟩ (.int .i64 u1)).setCell ⟨g24, 2, none⟩ (.int .i64 u2)).setCell ⟨g24, 3, none⟩ (.int .i64 u3)).setCell ⟨g24, 4, none⟩ (.slice ru_A us.length ru_c)) = w30
    have hs : Kept w29 w30 (Iv g24 (g24 + 1)) := by rw [← hw]; exact kput (kput (kput (kput (kput (Kept.refl _ _)))))
    replace BKg4 := kb BKg4 hs (Iv_out (by omega))
    replace HOx := sk HOx hs (Iv_apart (by omega))
    replace BKg10 := kb BKg10 hs (Iv_out (by omega))
    replace HOy := sk HOy hs (Iv_apart (by omega))
    replace BKg12 := kb BKg12 hs (Iv_out (by omega))
    replace BKg13 := kb BKg13 hs (Iv_out (by omega))
    replace HOp := sk HOp hs (Iv_apart (by omega))
    replace BKg14 := kb BKg14 hs (Iv_out (by omega))
    replace HOq := sk HOq hs (Iv_apart (by omega))
    replace BKg16 := kb BKg16 hs (Iv_out (by omega))
    replace HOu := sk HOu hs (Iv_apart (by omega))
    replace BKg18 := kb BKg18 hs (Iv_out (by omega))
    replace HOrp := Aside0.mk (Kd.N_kept HOrp.out hs (Ivw_apart (by omega)))
    replace BKg20 := kb BKg20 hs (Iv_out (by omega))
    replace HOrq := Aside0.mk (Kd.N_kept HOrq.out hs (Ivw_apart (by omega)))
    replace BKg22 := kb BKg22 hs (Iv_out (by omega))
    replace HOru := sk HOru hs (Iv_apart (by omega))
    replace BKg24 : Aside0 (w30.heap[g24]? = some (.cells #[.int .i64 u0, .int .i64 u1, .int .i64 u2, .int .i64 u3, .slice ru_A us.length ru_c] 27 (0, 0))) := ⟨by rw [← hw]; exact blk_put (blk_put (blk_put (blk_put (blk_put (BKg24.out) 0 _ rfl) 1 _ rfl) 2 _ rfl) 3 _ rfl) 4 _ rfl⟩
    have hq : w.heap.size ≤ g24 := (by omega)
    replace HB : Aside0 (Below w.heap.size w w30) := ⟨by rw [← hw]; exact below_set (below_set (below_set (below_set (below_set (HB.out) hq) hq) hq) hq) hq⟩
    have SZ30 := Aside0.mk (show w29.heap.size ≤ w30.heap.size from hs.1)
    clear q0_ q1_ q2_ q3_ q4_ q5_ q6_ q7_ q8_ q9_ q10_ q11_ q12_ q13_ q14_ q15_ q16_ q17_ q18_ q19_ q20_ q21_ q22_ q23_ q24_ q25_ q26_ q27_
    clear hs hw hq
    obtain ⟨⟨hcg4_0, hfg4_0⟩, ⟨hcg4_1, hfg4_1⟩, ⟨hcg4_2, hfg4_2⟩, ⟨hcg4_3, hfg4_3⟩, ⟨hcg4_4, hfg4_4⟩⟩ := cells5 BKg4.out
    obtain ⟨⟨hcg24_0, hfg24_0⟩, ⟨hcg24_1, hfg24_1⟩, ⟨hcg24_2, hfg24_2⟩, ⟨hcg24_3, hfg24_3⟩, ⟨hcg24_4, hfg24_4⟩⟩ := cells5 BKg24.out
    (try clear hcg4_0 hfg4_0 hcg4_1 hfg4_1 hcg4_2 hfg4_2 hcg4_3 hfg4_3 hcg4_4 hfg4_4)
    (try clear hcg24_0 hfg24_0 hcg24_1 hfg24_1 hcg24_2 hfg24_2 hcg24_3 hfg24_3 hcg24_4 hfg24_4)
    obtain ⟨⟨hcg4_0, hfg4_0⟩, ⟨hcg4_1, hfg4_1⟩, ⟨hcg4_2, hfg4_2⟩, ⟨hcg4_3, hfg4_3⟩, ⟨hcg4_4, hfg4_4⟩⟩ := cells5 BKg4.out
    obtain ⟨⟨hcg10_0, hfg10_0⟩, ⟨hcg10_1, hfg10_1⟩, ⟨hcg10_2, hfg10_2⟩, ⟨hcg10_3, hfg10_3⟩, ⟨hcg10_4, hfg10_4⟩⟩ := cells5 BKg10.out
    obtain ⟨⟨hcg14_0, hfg14_0⟩, ⟨hcg14_1, hfg14_1⟩, ⟨hcg14_2, hfg14_2⟩, ⟨hcg14_3, hfg14_3⟩, ⟨hcg14_4, hfg14_4⟩⟩ := cells5 BKg14.out
    obtain ⟨⟨hcg16_0, hfg16_0⟩, ⟨hcg16_1, hfg16_1⟩, ⟨hcg16_2, hfg16_2⟩, ⟨hcg16_3, hfg16_3⟩, ⟨hcg16_4, hfg16_4⟩⟩ := cells5 BKg16.out
    obtain ⟨⟨hcg18_0, hfg18_0⟩, ⟨hcg18_1, hfg18_1⟩, ⟨hcg18_2, hfg18_2⟩, ⟨hcg18_3, hfg18_3⟩, ⟨hcg18_4, hfg18_4⟩⟩ := cells5 BKg18.out
    obtain ⟨⟨hcg20_0, hfg20_0⟩, ⟨hcg20_1, hfg20_1⟩, ⟨hcg20_2, hfg20_2⟩, ⟨hcg20_3, hfg20_3⟩, ⟨hcg20_4, hfg20_4⟩⟩ := cells5 BKg20.out
    obtain ⟨⟨hcg22_0, hfg22_0⟩, ⟨hcg22_1, hfg22_1⟩, ⟨hcg22_2, hfg22_2⟩, ⟨hcg22_3, hfg22_3⟩, ⟨hcg22_4, hfg22_4⟩⟩ := cells5 BKg22.out
    obtain ⟨⟨hcg24_0, hfg24_0⟩, ⟨hcg24_1, hfg24_1⟩, ⟨hcg24_2, hfg24_2⟩, ⟨hcg24_3, hfg24_3⟩, ⟨hcg24_4, hfg24_4⟩⟩ := cells5 BKg24.out
    (try clear hcg4_0 hfg4_0 hcg4_1 hfg4_1 hcg4_2 hfg4_2 hcg4_3 hfg4_3 hcg4_4 hfg4_4)
    (try clear hcg10_0 hfg10_0 hcg10_1 hfg10_1 hcg10_2 hfg10_2 hcg10_3 hfg10_3 hcg10_4 hfg10_4)
    (try clear hcg14_0 hfg14_0 hcg14_1 hfg14_1 hcg14_2 hfg14_2 hcg14_3 hfg14_3 hcg14_4 hfg14_4)
    (try clear hcg16_0 hfg16_0 hcg16_1 hfg16_1 hcg16_2 hfg16_2 hcg16_3 hfg16_3 hcg16_4 hfg16_4)
    (try clear hcg18_0 hfg18_0 hcg18_1 hfg18_1 hcg18_2 hfg18_2 hcg18_3 hfg18_3 hcg18_4 hfg18_4)
    (try clear hcg20_0 hfg20_0 hcg20_1 hfg20_1 hcg20_2 hfg20_2 hcg20_3 hfg20_3 hcg20_4 hfg20_4)
    (try clear hcg22_0 hfg22_0 hcg22_1 hfg22_1 hcg22_2 hfg22_2 hcg22_3 hfg22_3 hcg22_4 hfg22_4)
    (try clear hcg24_0 hfg24_0 hcg24_1 hfg24_1 hcg24_2 hfg24_2 hcg24_3 hfg24_3 hcg24_4 hfg24_4)
    have hs : Below w30.heap.size w30 (World.drew w30) := below_drew1 (Below.refl _ _)
    have SZ31 := Aside0.mk (show w30.heap.size ≤ (World.drew w30).heap.size from hs.size)
    replace BKg4 := bb BKg4 hs
    replace HOx := sb HOx hs
    replace BKg10 := bb BKg10 hs
    replace HOy := sb HOy hs
    replace BKg12 := bb BKg12 hs
    replace BKg13 := bb BKg13 hs
    replace HOp := sb HOp hs
    replace BKg14 := bb BKg14 hs
    replace HOq := sb HOq hs
    replace BKg16 := bb BKg16 hs
    replace HOu := sb HOu hs
    replace BKg18 := bb BKg18 hs
    replace HOrp := Aside0.mk (Kd.N_below HOrp.out hs)
    replace BKg20 := bb BKg20 hs
    replace HOrq := Aside0.mk (Kd.N_below HOrq.out hs)
    replace BKg22 := bb BKg22 hs
    replace HOru := sb HOru hs
    replace BKg24 := bb BKg24 hs
    have n_ := Aside0.mk (below_step HB.out hs)
    clear HB
    have HB := n_
    clear n_ hs
    refine start_ (n := 21) (S := fun w' => w'.cell? ⟨g4, 0, none⟩ = some (.int .i64 a) ∧ w'.cell? ⟨g4, 1, none⟩ = some (.int .i64 b) ∧ w'.cell? ⟨g4, 2, none⟩ = some (.int .i64 c) ∧ w'.cell? ⟨g4, 3, none⟩ = some (.int .i64 d) ∧ w'.cell? ⟨g4, 4, none⟩ = some (.slice Am sl.length cm) ∧ w'.cell? ⟨g10, 0, none⟩ = some (.int .i64 a) ∧ w'.cell? ⟨g10, 1, none⟩ = some (.int .i64 b) ∧ w'.cell? ⟨g10, 2, none⟩ = some (.int .i64 c) ∧ w'.cell? ⟨g10, 3, none⟩ = some (.int .i64 d) ∧ w'.cell? ⟨g10, 4, none⟩ = some (.slice x_A sl.length x_c) ∧ w'.cell? ⟨g14, 0, none⟩ = some (.int .i64 p0) ∧ w'.cell? ⟨g14, 1, none⟩ = some (.int .i64 p1) ∧ w'.cell? ⟨g14, 2, none⟩ = some (.int .i64 p2) ∧ w'.cell? ⟨g14, 3, none⟩ = some (.int .i64 p3) ∧ w'.cell? ⟨g14, 4, none⟩ = some (.slice p_A ps.length p_c) ∧ w'.cell? ⟨g16, 0, none⟩ = some (.int .i64 q0) ∧ w'.cell? ⟨g16, 1, none⟩ = some (.int .i64 q1) ∧ w'.cell? ⟨g16, 2, none⟩ = some (.int .i64 q2) ∧ w'.cell? ⟨g16, 3, none⟩ = some (.int .i64 q3) ∧ w'.cell? ⟨g16, 4, none⟩ = some (.slice q_A qs.length q_c) ∧ w'.cell? ⟨g18, 0, none⟩ = some (.int .i64 u0) ∧ w'.cell? ⟨g18, 1, none⟩ = some (.int .i64 u1) ∧ w'.cell? ⟨g18, 2, none⟩ = some (.int .i64 u2) ∧ w'.cell? ⟨g18, 3, none⟩ = some (.int .i64 u3) ∧ w'.cell? ⟨g18, 4, none⟩ = some (.slice u_A us.length u_c) ∧ w'.cell? ⟨g20, 0, none⟩ = some (.int .i64 p0) ∧ w'.cell? ⟨g20, 1, none⟩ = some (.int .i64 p1) ∧ w'.cell? ⟨g20, 2, none⟩ = some (.int .i64 p2) ∧ w'.cell? ⟨g20, 3, none⟩ = some (.int .i64 p3) ∧ w'.cell? ⟨g20, 4, none⟩ = some (.slice rp_A ps.length rp_c) ∧ w'.cell? ⟨g22, 0, none⟩ = some (.int .i64 q0) ∧ w'.cell? ⟨g22, 1, none⟩ = some (.int .i64 q1) ∧ w'.cell? ⟨g22, 2, none⟩ = some (.int .i64 q2) ∧ w'.cell? ⟨g22, 3, none⟩ = some (.int .i64 q3) ∧ w'.cell? ⟨g22, 4, none⟩ = some (.slice rq_A qs.length rq_c) ∧ w'.cell? ⟨g24, 0, none⟩ = some (.int .i64 u0) ∧ w'.cell? ⟨g24, 1, none⟩ = some (.int .i64 u1) ∧ w'.cell? ⟨g24, 2, none⟩ = some (.int .i64 u2) ∧ w'.cell? ⟨g24, 3, none⟩ = some (.int .i64 u3) ∧ w'.cell? ⟨g24, 4, none⟩ = some (.slice ru_A us.length ru_c)) (ds := []) #[false, false, false, false, false, false, false, false, false, false, false, false, false, false, false, false, false, false, false, false, false] (by kernel_rfl) rfl rfl ⟨(blk_cell BKg4.out 0).trans rfl, (blk_cell BKg4.out 1).trans rfl, (blk_cell BKg4.out 2).trans rfl, (blk_cell BKg4.out 3).trans rfl, (blk_cell BKg4.out 4).trans rfl, (blk_cell BKg10.out 0).trans rfl, (blk_cell BKg10.out 1).trans rfl, (blk_cell BKg10.out 2).trans rfl, (blk_cell BKg10.out 3).trans rfl, (blk_cell BKg10.out 4).trans rfl, (blk_cell BKg14.out 0).trans rfl, (blk_cell BKg14.out 1).trans rfl, (blk_cell BKg14.out 2).trans rfl, (blk_cell BKg14.out 3).trans rfl, (blk_cell BKg14.out 4).trans rfl, (blk_cell BKg16.out 0).trans rfl, (blk_cell BKg16.out 1).trans rfl, (blk_cell BKg16.out 2).trans rfl, (blk_cell BKg16.out 3).trans rfl, (blk_cell BKg16.out 4).trans rfl, (blk_cell BKg18.out 0).trans rfl, (blk_cell BKg18.out 1).trans rfl, (blk_cell BKg18.out 2).trans rfl, (blk_cell BKg18.out 3).trans rfl, (blk_cell BKg18.out 4).trans rfl, (blk_cell BKg20.out 0).trans rfl, (blk_cell BKg20.out 1).trans rfl, (blk_cell BKg20.out 2).trans rfl, (blk_cell BKg20.out 3).trans rfl, (blk_cell BKg20.out 4).trans rfl, (blk_cell BKg22.out 0).trans rfl, (blk_cell BKg22.out 1).trans rfl, (blk_cell BKg22.out 2).trans rfl, (blk_cell BKg22.out 3).trans rfl, (blk_cell BKg22.out 4).trans rfl, (blk_cell BKg24.out 0).trans rfl, (blk_cell BKg24.out 1).trans rfl, (blk_cell BKg24.out 2).trans rfl, (blk_cell BKg24.out 3).trans rfl, (blk_cell BKg24.out 4).trans rfl⟩ (fun hHeld => ?_)
    generalize World.drew w30 = w31 at HB BKg4 HOx BKg10 HOy BKg12 BKg13 HOp BKg14 HOq BKg16 HOu BKg18 HOrp BKg20 HOrq BKg22 HOru BKg24 SZ31 hHeld ⊢
    refine take_ (i := 0) (N := some 87) (v := ?_) (a' := ?_) #[true, false, false, false, false, false, false, false, false, false, false, false, false, false, false, false, false, false, false, false, false] rfl rfl (by kernel_rfl) (fun _ _ _ h => h) (Or.inl ⟨by rfl, ?_⟩) hHeld ?_ ?_
    rotate_left
    · rintro w' ⟨s0, s1, s2, s3, s4, s5, s6, s7, s8, s9, s10, s11, s12, s13, s14, s15, s16, s17, s18, s19, s20, s21, s22, s23, s24, s25, s26, s27, s28, s29, s30, s31, s32, s33, s34, s35, s36, s37, s38, s39⟩
      go_simp
      with_reducible rfl
    rotate_left
    · simp only [Act.put, List.setIfInBounds_toArray, List.set_cons_zero, List.set_cons_succ, i64_w, i32_w]
      rfl
    refine take_ (i := 1) (N := some 88) (v := ?_) (a' := ?_) #[true, true, false, false, false, false, false, false, false, false, false, false, false, false, false, false, false, false, false, false, false] rfl rfl (by kernel_rfl) (fun _ _ _ h => h) (Or.inl ⟨by rfl, ?_⟩) hHeld ?_ ?_
    rotate_left
    · rintro w' ⟨s0, s1, s2, s3, s4, s5, s6, s7, s8, s9, s10, s11, s12, s13, s14, s15, s16, s17, s18, s19, s20, s21, s22, s23, s24, s25, s26, s27, s28, s29, s30, s31, s32, s33, s34, s35, s36, s37, s38, s39⟩
      go_simp
      with_reducible rfl
    rotate_left
    · simp only [Act.put, List.setIfInBounds_toArray, List.set_cons_zero, List.set_cons_succ, i64_w, i32_w]
      rfl
    refine one_ (i := 2) (N := some 89) #[true, true, true, false, false, false, false, false, false, false, false, false, false, false, false, false, false, false, false, false, false] rfl rfl (by kernel_rfl) (by decide) (fun K hK => ?_)
    refine goes_ Try.func26 (by kernel_rfl) rfl #[.agg #[.int .i64 p0, .int .i64 p1, .int .i64 p2, .int .i64 p3, .slice p_A ps.length p_c], .agg #[.int .i64 p0, .int .i64 p1, .int .i64 p2, .int .i64 p3, .slice rp_A ps.length rp_c]] (by rfl) rfl rfl (by simp only [List.map_toArray, List.map_cons, List.map_nil]; rfl) ?_
    with_reducible refine (twoslotref09_Same.calls k p0 p1 p2 p3 p_A p_c ps p0 p1 p2 p3 rp_A rp_c ps true _ ?s1 (Kd.S_reads' HOp.out).2.1 ?s2 (Kd.N_reads' HOrp.out).2.1 HS1.out).mono ?_
    (case s1 => exact (Kd.S_reads' (Kd.S_below HOp.out (by repeat (first | exact Below.refl _ _ | apply below_alloc | apply pw_below_drewN | apply below_drew1)))).2.2)
    (case s2 => exact (Kd.N_reads' (Kd.N_below HOrp.out (by repeat (first | exact Below.refl _ _ | apply below_alloc | apply pw_below_drewN | apply below_drew1)))).2.2)
    rintro e w32 ⟨rfl, hb⟩
    refine ⟨_, rfl, ?_⟩
    have hs : Below w31.heap.size w31 w32 := below_step (by repeat (first | exact Below.refl _ _ | apply below_alloc | apply pw_below_drewN | apply below_drew1)) hb
    have hl : w31.heap.size ≤ _ := below_size (w := w31) (by repeat (first | exact Below.refl _ _ | apply below_alloc | apply pw_below_drewN | apply below_drew1))
    have SZ32 := Aside0.mk (show w31.heap.size ≤ w32.heap.size from hs.size)
    replace BKg4 := bb BKg4 hs
    replace HOx := sb HOx hs
    replace BKg10 := bb BKg10 hs
    replace HOy := sb HOy hs
    replace BKg12 := bb BKg12 hs
    replace BKg13 := bb BKg13 hs
    replace HOp := sb HOp hs
    replace BKg14 := bb BKg14 hs
    replace HOq := sb HOq hs
    replace BKg16 := bb BKg16 hs
    replace HOu := sb HOu hs
    replace BKg18 := bb BKg18 hs
    replace HOrp := Aside0.mk (Kd.N_below HOrp.out hs)
    replace BKg20 := bb BKg20 hs
    replace HOrq := Aside0.mk (Kd.N_below HOrq.out hs)
    replace BKg22 := bb BKg22 hs
    replace HOru := sb HOru hs
    replace BKg24 := bb BKg24 hs
    have n_ := Aside0.mk (below_step HB.out hs)
    clear HB
    have HB := n_
    clear n_ hs hb
    (try clear hl)
    refine hK.out _ _ ⟨(blk_cell BKg4.out 0).trans rfl, (blk_cell BKg4.out 1).trans rfl, (blk_cell BKg4.out 2).trans rfl, (blk_cell BKg4.out 3).trans rfl, (blk_cell BKg4.out 4).trans rfl, (blk_cell BKg10.out 0).trans rfl, (blk_cell BKg10.out 1).trans rfl, (blk_cell BKg10.out 2).trans rfl, (blk_cell BKg10.out 3).trans rfl, (blk_cell BKg10.out 4).trans rfl, (blk_cell BKg14.out 0).trans rfl, (blk_cell BKg14.out 1).trans rfl, (blk_cell BKg14.out 2).trans rfl, (blk_cell BKg14.out 3).trans rfl, (blk_cell BKg14.out 4).trans rfl, (blk_cell BKg16.out 0).trans rfl, (blk_cell BKg16.out 1).trans rfl, (blk_cell BKg16.out 2).trans rfl, (blk_cell BKg16.out 3).trans rfl, (blk_cell BKg16.out 4).trans rfl, (blk_cell BKg18.out 0).trans rfl, (blk_cell BKg18.out 1).trans rfl, (blk_cell BKg18.out 2).trans rfl, (blk_cell BKg18.out 3).trans rfl, (blk_cell BKg18.out 4).trans rfl, (blk_cell BKg20.out 0).trans rfl, (blk_cell BKg20.out 1).trans rfl, (blk_cell BKg20.out 2).trans rfl, (blk_cell BKg20.out 3).trans rfl, (blk_cell BKg20.out 4).trans rfl, (blk_cell BKg22.out 0).trans rfl, (blk_cell BKg22.out 1).trans rfl, (blk_cell BKg22.out 2).trans rfl, (blk_cell BKg22.out 3).trans rfl, (blk_cell BKg22.out 4).trans rfl, (blk_cell BKg24.out 0).trans rfl, (blk_cell BKg24.out 1).trans rfl, (blk_cell BKg24.out 2).trans rfl, (blk_cell BKg24.out 3).trans rfl, (blk_cell BKg24.out 4).trans rfl⟩ (fun hHeld => ?_)
    clear hK K
    refine norm_ (a' := ?_) ?_ ?_
    rotate_left
    · show Act.put _ (some 89) _ = _
      simp only [Act.put, List.setIfInBounds_toArray, List.set_cons_zero, List.set_cons_succ, i64_w, i32_w]
      rfl
    refine pure_ (i := 3) (N := some 90) (v := ?_) (a' := ?_) #[true, true, true, true, false, false, false, false, false, false, false, false, false, false, false, false, false, false, false, false, false] rfl rfl (by kernel_rfl) (fun _ _ _ h => h) (Or.inl ⟨by rfl, ?_⟩) ?_ ?_
    rotate_left
    · intro w'
      go_simp
      with_reducible rfl
    rotate_left
    · simp only [Act.put, List.setIfInBounds_toArray, List.set_cons_zero, List.set_cons_succ, i64_w, i32_w]
      rfl
    refine take_ (i := 4) (N := some 91) (v := ?_) (a' := ?_) #[true, true, true, true, true, false, false, false, false, false, false, false, false, false, false, false, false, false, false, false, false] rfl rfl (by kernel_rfl) (fun _ _ _ h => h) (Or.inl ⟨by rfl, ?_⟩) hHeld ?_ ?_
    rotate_left
    · rintro w' ⟨s0, s1, s2, s3, s4, s5, s6, s7, s8, s9, s10, s11, s12, s13, s14, s15, s16, s17, s18, s19, s20, s21, s22, s23, s24, s25, s26, s27, s28, s29, s30, s31, s32, s33, s34, s35, s36, s37, s38, s39⟩
      go_simp
      with_reducible rfl
    rotate_left
    · simp only [Act.put, List.setIfInBounds_toArray, List.set_cons_zero, List.set_cons_succ, i64_w, i32_w]
      rfl
    refine take_ (i := 5) (N := some 92) (v := ?_) (a' := ?_) #[true, true, true, true, true, true, false, false, false, false, false, false, false, false, false, false, false, false, false, false, false] rfl rfl (by kernel_rfl) (fun _ _ _ h => h) (Or.inl ⟨by rfl, ?_⟩) hHeld ?_ ?_
    rotate_left
    · rintro w' ⟨s0, s1, s2, s3, s4, s5, s6, s7, s8, s9, s10, s11, s12, s13, s14, s15, s16, s17, s18, s19, s20, s21, s22, s23, s24, s25, s26, s27, s28, s29, s30, s31, s32, s33, s34, s35, s36, s37, s38, s39⟩
      go_simp
      with_reducible rfl
    rotate_left
    · simp only [Act.put, List.setIfInBounds_toArray, List.set_cons_zero, List.set_cons_succ, i64_w, i32_w]
      rfl
    refine one_ (i := 6) (N := some 93) #[true, true, true, true, true, true, true, false, false, false, false, false, false, false, false, false, false, false, false, false, false] rfl rfl (by kernel_rfl) (by decide) (fun K hK => ?_)
    refine goes_ Try.func26 (by kernel_rfl) rfl #[.agg #[.int .i64 q0, .int .i64 q1, .int .i64 q2, .int .i64 q3, .slice q_A qs.length q_c], .agg #[.int .i64 q0, .int .i64 q1, .int .i64 q2, .int .i64 q3, .slice rq_A qs.length rq_c]] (by rfl) rfl rfl (by simp only [List.map_toArray, List.map_cons, List.map_nil]; rfl) ?_
    with_reducible refine (twoslotref09_Same.calls k q0 q1 q2 q3 q_A q_c qs q0 q1 q2 q3 rq_A rq_c qs true _ ?s1 (Kd.S_reads' HOq.out).2.1 ?s2 (Kd.N_reads' HOrq.out).2.1 HS2.out).mono ?_
    (case s1 => exact (Kd.S_reads' (Kd.S_below HOq.out (by repeat (first | exact Below.refl _ _ | apply below_alloc | apply pw_below_drewN | apply below_drew1)))).2.2)
    (case s2 => exact (Kd.N_reads' (Kd.N_below HOrq.out (by repeat (first | exact Below.refl _ _ | apply below_alloc | apply pw_below_drewN | apply below_drew1)))).2.2)
    rintro e w33 ⟨rfl, hb⟩
    refine ⟨_, rfl, ?_⟩
    have hs : Below w32.heap.size w32 w33 := below_step (by repeat (first | exact Below.refl _ _ | apply below_alloc | apply pw_below_drewN | apply below_drew1)) hb
    have hl : w32.heap.size ≤ _ := below_size (w := w32) (by repeat (first | exact Below.refl _ _ | apply below_alloc | apply pw_below_drewN | apply below_drew1))
    have SZ33 := Aside0.mk (show w32.heap.size ≤ w33.heap.size from hs.size)
    replace BKg4 := bb BKg4 hs
    replace HOx := sb HOx hs
    replace BKg10 := bb BKg10 hs
    replace HOy := sb HOy hs
    replace BKg12 := bb BKg12 hs
    replace BKg13 := bb BKg13 hs
    replace HOp := sb HOp hs
    replace BKg14 := bb BKg14 hs
    replace HOq := sb HOq hs
    replace BKg16 := bb BKg16 hs
    replace HOu := sb HOu hs
    replace BKg18 := bb BKg18 hs
    replace HOrp := Aside0.mk (Kd.N_below HOrp.out hs)
    replace BKg20 := bb BKg20 hs
    replace HOrq := Aside0.mk (Kd.N_below HOrq.out hs)
    replace BKg22 := bb BKg22 hs
    replace HOru := sb HOru hs
    replace BKg24 := bb BKg24 hs
    have n_ := Aside0.mk (below_step HB.out hs)
    clear HB
    have HB := n_
    clear n_ hs hb
    (try clear hl)
    refine hK.out _ _ ⟨(blk_cell BKg4.out 0).trans rfl, (blk_cell BKg4.out 1).trans rfl, (blk_cell BKg4.out 2).trans rfl, (blk_cell BKg4.out 3).trans rfl, (blk_cell BKg4.out 4).trans rfl, (blk_cell BKg10.out 0).trans rfl, (blk_cell BKg10.out 1).trans rfl, (blk_cell BKg10.out 2).trans rfl, (blk_cell BKg10.out 3).trans rfl, (blk_cell BKg10.out 4).trans rfl, (blk_cell BKg14.out 0).trans rfl, (blk_cell BKg14.out 1).trans rfl, (blk_cell BKg14.out 2).trans rfl, (blk_cell BKg14.out 3).trans rfl, (blk_cell BKg14.out 4).trans rfl, (blk_cell BKg16.out 0).trans rfl, (blk_cell BKg16.out 1).trans rfl, (blk_cell BKg16.out 2).trans rfl, (blk_cell BKg16.out 3).trans rfl, (blk_cell BKg16.out 4).trans rfl, (blk_cell BKg18.out 0).trans rfl, (blk_cell BKg18.out 1).trans rfl, (blk_cell BKg18.out 2).trans rfl, (blk_cell BKg18.out 3).trans rfl, (blk_cell BKg18.out 4).trans rfl, (blk_cell BKg20.out 0).trans rfl, (blk_cell BKg20.out 1).trans rfl, (blk_cell BKg20.out 2).trans rfl, (blk_cell BKg20.out 3).trans rfl, (blk_cell BKg20.out 4).trans rfl, (blk_cell BKg22.out 0).trans rfl, (blk_cell BKg22.out 1).trans rfl, (blk_cell BKg22.out 2).trans rfl, (blk_cell BKg22.out 3).trans rfl, (blk_cell BKg22.out 4).trans rfl, (blk_cell BKg24.out 0).trans rfl, (blk_cell BKg24.out 1).trans rfl, (blk_cell BKg24.out 2).trans rfl, (blk_cell BKg24.out 3).trans rfl, (blk_cell BKg24.out 4).trans rfl⟩ (fun hHeld => ?_)
    clear hK K
    refine norm_ (a' := ?_) ?_ ?_
    rotate_left
    · show Act.put _ (some 93) _ = _
      simp only [Act.put, List.setIfInBounds_toArray, List.set_cons_zero, List.set_cons_succ, i64_w, i32_w]
      rfl
    refine pure_ (i := 7) (N := some 94) (v := ?_) (a' := ?_) #[true, true, true, true, true, true, true, true, false, false, false, false, false, false, false, false, false, false, false, false, false] rfl rfl (by kernel_rfl) (fun _ _ _ h => h) (Or.inl ⟨by rfl, ?_⟩) ?_ ?_
    rotate_left
    · intro w'
      go_simp
      with_reducible rfl
    rotate_left
    · simp only [Act.put, List.setIfInBounds_toArray, List.set_cons_zero, List.set_cons_succ, i64_w, i32_w]
      rfl
    refine pure_ (i := 8) (N := some 95) (v := ?_) (a' := ?_) #[true, true, true, true, true, true, true, true, true, false, false, false, false, false, false, false, false, false, false, false, false] rfl rfl (by kernel_rfl) (fun _ _ _ h => h) (Or.inl ⟨by rfl, ?_⟩) ?_ ?_
    rotate_left
    · intro w'
      go_simp
      with_reducible rfl
    rotate_left
    · simp only [Act.put, List.setIfInBounds_toArray, List.set_cons_zero, List.set_cons_succ, i64_w, i32_w]
      rfl
    refine take_ (i := 9) (N := some 96) (v := ?_) (a' := ?_) #[true, true, true, true, true, true, true, true, true, true, false, false, false, false, false, false, false, false, false, false, false] rfl rfl (by kernel_rfl) (fun _ _ _ h => h) (Or.inl ⟨by rfl, ?_⟩) hHeld ?_ ?_
    rotate_left
    · rintro w' ⟨s0, s1, s2, s3, s4, s5, s6, s7, s8, s9, s10, s11, s12, s13, s14, s15, s16, s17, s18, s19, s20, s21, s22, s23, s24, s25, s26, s27, s28, s29, s30, s31, s32, s33, s34, s35, s36, s37, s38, s39⟩
      go_simp
      with_reducible rfl
    rotate_left
    · simp only [Act.put, List.setIfInBounds_toArray, List.set_cons_zero, List.set_cons_succ, i64_w, i32_w]
      rfl
    refine take_ (i := 10) (N := some 97) (v := ?_) (a' := ?_) #[true, true, true, true, true, true, true, true, true, true, true, false, false, false, false, false, false, false, false, false, false] rfl rfl (by kernel_rfl) (fun _ _ _ h => h) (Or.inl ⟨by rfl, ?_⟩) hHeld ?_ ?_
    rotate_left
    · rintro w' ⟨s0, s1, s2, s3, s4, s5, s6, s7, s8, s9, s10, s11, s12, s13, s14, s15, s16, s17, s18, s19, s20, s21, s22, s23, s24, s25, s26, s27, s28, s29, s30, s31, s32, s33, s34, s35, s36, s37, s38, s39⟩
      go_simp
      with_reducible rfl
    rotate_left
    · simp only [Act.put, List.setIfInBounds_toArray, List.set_cons_zero, List.set_cons_succ, i64_w, i32_w]
      rfl
    refine one_ (i := 11) (N := some 98) #[true, true, true, true, true, true, true, true, true, true, true, true, false, false, false, false, false, false, false, false, false] rfl rfl (by kernel_rfl) (by decide) (fun K hK => ?_)
    refine goes_ Try.func26 (by kernel_rfl) rfl #[.agg #[.int .i64 u0, .int .i64 u1, .int .i64 u2, .int .i64 u3, .slice u_A us.length u_c], .agg #[.int .i64 u0, .int .i64 u1, .int .i64 u2, .int .i64 u3, .slice ru_A us.length ru_c]] (by rfl) rfl rfl (by simp only [List.map_toArray, List.map_cons, List.map_nil]; rfl) ?_
    with_reducible refine (twoslotref09_Same.calls k u0 u1 u2 u3 u_A u_c us u0 u1 u2 u3 ru_A ru_c us true _ ?s1 (Kd.S_reads' HOu.out).2.1 ?s2 (Kd.S_reads' HOru.out).2.1 HS3.out).mono ?_
    (case s1 => exact (Kd.S_reads' (Kd.S_below HOu.out (by repeat (first | exact Below.refl _ _ | apply below_alloc | apply pw_below_drewN | apply below_drew1)))).2.2)
    (case s2 => exact (Kd.S_reads' (Kd.S_below HOru.out (by repeat (first | exact Below.refl _ _ | apply below_alloc | apply pw_below_drewN | apply below_drew1)))).2.2)
    rintro e w34 ⟨rfl, hb⟩
    refine ⟨_, rfl, ?_⟩
    have hs : Below w33.heap.size w33 w34 := below_step (by repeat (first | exact Below.refl _ _ | apply below_alloc | apply pw_below_drewN | apply below_drew1)) hb
    have hl : w33.heap.size ≤ _ := below_size (w := w33) (by repeat (first | exact Below.refl _ _ | apply below_alloc | apply pw_below_drewN | apply below_drew1))
    have SZ34 := Aside0.mk (show w33.heap.size ≤ w34.heap.size from hs.size)
    replace BKg4 := bb BKg4 hs
    replace HOx := sb HOx hs
    replace BKg10 := bb BKg10 hs
    replace HOy := sb HOy hs
    replace BKg12 := bb BKg12 hs
    replace BKg13 := bb BKg13 hs
    replace HOp := sb HOp hs
    replace BKg14 := bb BKg14 hs
    replace HOq := sb HOq hs
    replace BKg16 := bb BKg16 hs
    replace HOu := sb HOu hs
    replace BKg18 := bb BKg18 hs
    replace HOrp := Aside0.mk (Kd.N_below HOrp.out hs)
    replace BKg20 := bb BKg20 hs
    replace HOrq := Aside0.mk (Kd.N_below HOrq.out hs)
    replace BKg22 := bb BKg22 hs
    replace HOru := sb HOru hs
    replace BKg24 := bb BKg24 hs
    have n_ := Aside0.mk (below_step HB.out hs)
    clear HB
    have HB := n_
    clear n_ hs hb
    (try clear hl)
    refine hK.out _ _ ⟨(blk_cell BKg4.out 0).trans rfl, (blk_cell BKg4.out 1).trans rfl, (blk_cell BKg4.out 2).trans rfl, (blk_cell BKg4.out 3).trans rfl, (blk_cell BKg4.out 4).trans rfl, (blk_cell BKg10.out 0).trans rfl, (blk_cell BKg10.out 1).trans rfl, (blk_cell BKg10.out 2).trans rfl, (blk_cell BKg10.out 3).trans rfl, (blk_cell BKg10.out 4).trans rfl, (blk_cell BKg14.out 0).trans rfl, (blk_cell BKg14.out 1).trans rfl, (blk_cell BKg14.out 2).trans rfl, (blk_cell BKg14.out 3).trans rfl, (blk_cell BKg14.out 4).trans rfl, (blk_cell BKg16.out 0).trans rfl, (blk_cell BKg16.out 1).trans rfl, (blk_cell BKg16.out 2).trans rfl, (blk_cell BKg16.out 3).trans rfl, (blk_cell BKg16.out 4).trans rfl, (blk_cell BKg18.out 0).trans rfl, (blk_cell BKg18.out 1).trans rfl, (blk_cell BKg18.out 2).trans rfl, (blk_cell BKg18.out 3).trans rfl, (blk_cell BKg18.out 4).trans rfl, (blk_cell BKg20.out 0).trans rfl, (blk_cell BKg20.out 1).trans rfl, (blk_cell BKg20.out 2).trans rfl, (blk_cell BKg20.out 3).trans rfl, (blk_cell BKg20.out 4).trans rfl, (blk_cell BKg22.out 0).trans rfl, (blk_cell BKg22.out 1).trans rfl, (blk_cell BKg22.out 2).trans rfl, (blk_cell BKg22.out 3).trans rfl, (blk_cell BKg22.out 4).trans rfl, (blk_cell BKg24.out 0).trans rfl, (blk_cell BKg24.out 1).trans rfl, (blk_cell BKg24.out 2).trans rfl, (blk_cell BKg24.out 3).trans rfl, (blk_cell BKg24.out 4).trans rfl⟩ (fun hHeld => ?_)
    clear hK K
    refine norm_ (a' := ?_) ?_ ?_
    rotate_left
    · show Act.put _ (some 98) _ = _
      simp only [Act.put, List.setIfInBounds_toArray, List.set_cons_zero, List.set_cons_succ, i64_w, i32_w]
      rfl
    refine pure_ (i := 12) (N := some 99) (v := ?_) (a' := ?_) #[true, true, true, true, true, true, true, true, true, true, true, true, true, false, false, false, false, false, false, false, false] rfl rfl (by kernel_rfl) (fun _ _ _ h => h) (Or.inl ⟨by rfl, ?_⟩) ?_ ?_
    rotate_left
    · intro w'
      go_simp
      with_reducible rfl
    rotate_left
    · simp only [Act.put, List.setIfInBounds_toArray, List.set_cons_zero, List.set_cons_succ, i64_w, i32_w]
      rfl
    refine pure_ (i := 13) (N := some 100) (v := ?_) (a' := ?_) #[true, true, true, true, true, true, true, true, true, true, true, true, true, true, false, false, false, false, false, false, false] rfl rfl (by kernel_rfl) (fun _ _ _ h => h) (Or.inl ⟨by rfl, ?_⟩) ?_ ?_
    rotate_left
    · intro w'
      go_simp
      with_reducible rfl
    rotate_left
    · simp only [Act.put, List.setIfInBounds_toArray, List.set_cons_zero, List.set_cons_succ, i64_w, i32_w]
      rfl
    refine take_ (i := 14) (N := some 101) (v := ?_) (a' := ?_) #[true, true, true, true, true, true, true, true, true, true, true, true, true, true, true, false, false, false, false, false, false] rfl rfl (by kernel_rfl) (fun _ _ _ h => h) (Or.inl ⟨by rfl, ?_⟩) hHeld ?_ ?_
    rotate_left
    · rintro w' ⟨s0, s1, s2, s3, s4, s5, s6, s7, s8, s9, s10, s11, s12, s13, s14, s15, s16, s17, s18, s19, s20, s21, s22, s23, s24, s25, s26, s27, s28, s29, s30, s31, s32, s33, s34, s35, s36, s37, s38, s39⟩
      go_simp
      with_reducible rfl
    rotate_left
    · simp only [Act.put, List.setIfInBounds_toArray, List.set_cons_zero, List.set_cons_succ, i64_w, i32_w]
      rfl
    refine take_ (i := 16) (N := some 103) (v := ?_) (a' := ?_) #[true, true, true, true, true, true, true, true, true, true, true, true, true, true, true, false, true, false, false, false, false] rfl rfl (by kernel_rfl) (fun _ _ _ h => h) (Or.inl ⟨by rfl, ?_⟩) hHeld ?_ ?_
    rotate_left
    · rintro w' ⟨s0, s1, s2, s3, s4, s5, s6, s7, s8, s9, s10, s11, s12, s13, s14, s15, s16, s17, s18, s19, s20, s21, s22, s23, s24, s25, s26, s27, s28, s29, s30, s31, s32, s33, s34, s35, s36, s37, s38, s39⟩
      go_simp
      with_reducible rfl
    rotate_left
    · simp only [Act.put, List.setIfInBounds_toArray, List.set_cons_zero, List.set_cons_succ, i64_w, i32_w]
      rfl
    refine one_ (i := 15) (N := some 102) #[true, true, true, true, true, true, true, true, true, true, true, true, true, true, true, true, true, false, false, false, false] rfl rfl (by kernel_rfl) (by decide) (fun K hK => ?_)
    refine goes_ Try.func17 (by kernel_rfl) rfl #[.agg #[.int .i64 a, .int .i64 b, .int .i64 c, .int .i64 d, .slice x_A sl.length x_c]] (by rfl) rfl rfl (by simp only [List.map_toArray, List.map_cons, List.map_nil]; rfl) ?_
    with_reducible refine (image_Check.calls k a b c d x_A x_c sl ck _ ?s1 (Kd.S_reads' HOx.out).2.1 HCK.out).mono ?_
    (case s1 => exact (Kd.S_reads' (Kd.S_below HOx.out (by repeat (first | exact Below.refl _ _ | apply below_alloc | apply pw_below_drewN | apply below_drew1)))).2.2)
    rintro e w35 ⟨rfl, hb⟩
    refine ⟨_, rfl, ?_⟩
    have hs : Below w34.heap.size w34 w35 := below_step (by repeat (first | exact Below.refl _ _ | apply below_alloc | apply pw_below_drewN | apply below_drew1)) hb
    have hl : w34.heap.size ≤ _ := below_size (w := w34) (by repeat (first | exact Below.refl _ _ | apply below_alloc | apply pw_below_drewN | apply below_drew1))
    have SZ35 := Aside0.mk (show w34.heap.size ≤ w35.heap.size from hs.size)
    replace BKg4 := bb BKg4 hs
    replace HOx := sb HOx hs
    replace BKg10 := bb BKg10 hs
    replace HOy := sb HOy hs
    replace BKg12 := bb BKg12 hs
    replace BKg13 := bb BKg13 hs
    replace HOp := sb HOp hs
    replace BKg14 := bb BKg14 hs
    replace HOq := sb HOq hs
    replace BKg16 := bb BKg16 hs
    replace HOu := sb HOu hs
    replace BKg18 := bb BKg18 hs
    replace HOrp := Aside0.mk (Kd.N_below HOrp.out hs)
    replace BKg20 := bb BKg20 hs
    replace HOrq := Aside0.mk (Kd.N_below HOrq.out hs)
    replace BKg22 := bb BKg22 hs
    replace HOru := sb HOru hs
    replace BKg24 := bb BKg24 hs
    have n_ := Aside0.mk (below_step HB.out hs)
    clear HB
    have HB := n_
    clear n_ hs hb
    (try clear hl)
    refine hK.out _ _ ⟨(blk_cell BKg4.out 0).trans rfl, (blk_cell BKg4.out 1).trans rfl, (blk_cell BKg4.out 2).trans rfl, (blk_cell BKg4.out 3).trans rfl, (blk_cell BKg4.out 4).trans rfl, (blk_cell BKg10.out 0).trans rfl, (blk_cell BKg10.out 1).trans rfl, (blk_cell BKg10.out 2).trans rfl, (blk_cell BKg10.out 3).trans rfl, (blk_cell BKg10.out 4).trans rfl, (blk_cell BKg14.out 0).trans rfl, (blk_cell BKg14.out 1).trans rfl, (blk_cell BKg14.out 2).trans rfl, (blk_cell BKg14.out 3).trans rfl, (blk_cell BKg14.out 4).trans rfl, (blk_cell BKg16.out 0).trans rfl, (blk_cell BKg16.out 1).trans rfl, (blk_cell BKg16.out 2).trans rfl, (blk_cell BKg16.out 3).trans rfl, (blk_cell BKg16.out 4).trans rfl, (blk_cell BKg18.out 0).trans rfl, (blk_cell BKg18.out 1).trans rfl, (blk_cell BKg18.out 2).trans rfl, (blk_cell BKg18.out 3).trans rfl, (blk_cell BKg18.out 4).trans rfl, (blk_cell BKg20.out 0).trans rfl, (blk_cell BKg20.out 1).trans rfl, (blk_cell BKg20.out 2).trans rfl, (blk_cell BKg20.out 3).trans rfl, (blk_cell BKg20.out 4).trans rfl, (blk_cell BKg22.out 0).trans rfl, (blk_cell BKg22.out 1).trans rfl, (blk_cell BKg22.out 2).trans rfl, (blk_cell BKg22.out 3).trans rfl, (blk_cell BKg22.out 4).trans rfl, (blk_cell BKg24.out 0).trans rfl, (blk_cell BKg24.out 1).trans rfl, (blk_cell BKg24.out 2).trans rfl, (blk_cell BKg24.out 3).trans rfl, (blk_cell BKg24.out 4).trans rfl⟩ (fun hHeld => ?_)
    clear hK K
    refine norm_ (a' := ?_) ?_ ?_
    rotate_left
    · show Act.put _ (some 102) _ = _
      simp only [Act.put, List.setIfInBounds_toArray, List.set_cons_zero, List.set_cons_succ, i64_w, i32_w]
      rfl
    refine one_ (i := 17) (N := some 104) #[true, true, true, true, true, true, true, true, true, true, true, true, true, true, true, true, true, true, false, false, false] rfl rfl (by kernel_rfl) (by decide) (fun K hK => ?_)
    refine goes_ Try.func27 (by kernel_rfl) rfl #[.agg #[.int .i64 a, .int .i64 b, .int .i64 c, .int .i64 d, .slice Am sl.length cm]] (by rfl) rfl rfl (by simp only [List.map_toArray, List.map_cons, List.map_nil]; rfl) ?_
    with_reducible refine (twoslotref09_Check.calls k a b c d Am cm sl ck _ ?s1 HCM.out RCK.out).mono ?_
    (case s1 => exact Kd.C_below HCm.out (by repeat (first | exact HB.out | apply below_alloc | apply pw_below_drewN | apply below_drew1)))
    rintro e w36 ⟨rfl, hb⟩
    refine ⟨_, rfl, ?_⟩
    have hs : Below w35.heap.size w35 w36 := below_step (by repeat (first | exact Below.refl _ _ | apply below_alloc | apply pw_below_drewN | apply below_drew1)) hb
    have hl : w35.heap.size ≤ _ := below_size (w := w35) (by repeat (first | exact Below.refl _ _ | apply below_alloc | apply pw_below_drewN | apply below_drew1))
    have SZ36 := Aside0.mk (show w35.heap.size ≤ w36.heap.size from hs.size)
    replace BKg4 := bb BKg4 hs
    replace HOx := sb HOx hs
    replace BKg10 := bb BKg10 hs
    replace HOy := sb HOy hs
    replace BKg12 := bb BKg12 hs
    replace BKg13 := bb BKg13 hs
    replace HOp := sb HOp hs
    replace BKg14 := bb BKg14 hs
    replace HOq := sb HOq hs
    replace BKg16 := bb BKg16 hs
    replace HOu := sb HOu hs
    replace BKg18 := bb BKg18 hs
    replace HOrp := Aside0.mk (Kd.N_below HOrp.out hs)
    replace BKg20 := bb BKg20 hs
    replace HOrq := Aside0.mk (Kd.N_below HOrq.out hs)
    replace BKg22 := bb BKg22 hs
    replace HOru := sb HOru hs
    replace BKg24 := bb BKg24 hs
    have n_ := Aside0.mk (below_step HB.out hs)
    clear HB
    have HB := n_
    clear n_ hs hb
    (try clear hl)
    refine hK.out _ _ ⟨(blk_cell BKg4.out 0).trans rfl, (blk_cell BKg4.out 1).trans rfl, (blk_cell BKg4.out 2).trans rfl, (blk_cell BKg4.out 3).trans rfl, (blk_cell BKg4.out 4).trans rfl, (blk_cell BKg10.out 0).trans rfl, (blk_cell BKg10.out 1).trans rfl, (blk_cell BKg10.out 2).trans rfl, (blk_cell BKg10.out 3).trans rfl, (blk_cell BKg10.out 4).trans rfl, (blk_cell BKg14.out 0).trans rfl, (blk_cell BKg14.out 1).trans rfl, (blk_cell BKg14.out 2).trans rfl, (blk_cell BKg14.out 3).trans rfl, (blk_cell BKg14.out 4).trans rfl, (blk_cell BKg16.out 0).trans rfl, (blk_cell BKg16.out 1).trans rfl, (blk_cell BKg16.out 2).trans rfl, (blk_cell BKg16.out 3).trans rfl, (blk_cell BKg16.out 4).trans rfl, (blk_cell BKg18.out 0).trans rfl, (blk_cell BKg18.out 1).trans rfl, (blk_cell BKg18.out 2).trans rfl, (blk_cell BKg18.out 3).trans rfl, (blk_cell BKg18.out 4).trans rfl, (blk_cell BKg20.out 0).trans rfl, (blk_cell BKg20.out 1).trans rfl, (blk_cell BKg20.out 2).trans rfl, (blk_cell BKg20.out 3).trans rfl, (blk_cell BKg20.out 4).trans rfl, (blk_cell BKg22.out 0).trans rfl, (blk_cell BKg22.out 1).trans rfl, (blk_cell BKg22.out 2).trans rfl, (blk_cell BKg22.out 3).trans rfl, (blk_cell BKg22.out 4).trans rfl, (blk_cell BKg24.out 0).trans rfl, (blk_cell BKg24.out 1).trans rfl, (blk_cell BKg24.out 2).trans rfl, (blk_cell BKg24.out 3).trans rfl, (blk_cell BKg24.out 4).trans rfl⟩ (fun hHeld => ?_)
    clear hK K
    refine norm_ (a' := ?_) ?_ ?_
    rotate_left
    · show Act.put _ (some 104) _ = _
      simp only [Act.put, List.setIfInBounds_toArray, List.set_cons_zero, List.set_cons_succ, i64_w, i32_w]
      rfl
    refine pure_ (i := 18) (N := some 105) (v := ?_) (a' := ?_) #[true, true, true, true, true, true, true, true, true, true, true, true, true, true, true, true, true, true, true, false, false] rfl rfl (by kernel_rfl) (fun _ _ _ h => h) (Or.inl ⟨by rfl, ?_⟩) ?_ ?_
    rotate_left
    · intro w'
      go_simp
      with_reducible rfl
    rotate_left
    · simp only [Act.put, List.setIfInBounds_toArray, List.set_cons_zero, List.set_cons_succ, i64_w, i32_w]
      rfl
    refine pure_ (i := 19) (N := some 106) (v := ?_) (a' := ?_) #[true, true, true, true, true, true, true, true, true, true, true, true, true, true, true, true, true, true, true, true, false] rfl rfl (by kernel_rfl) (fun _ _ _ h => h) (Or.inl ⟨by rfl, ?_⟩) ?_ ?_
    rotate_left
    · intro w'
      go_simp
      with_reducible rfl
    rotate_left
    · simp only [Act.put, List.setIfInBounds_toArray, List.set_cons_zero, List.set_cons_succ, i64_w, i32_w]
      rfl
    refine pure_ (i := 20) (N := some 26) (v := ?_) (a' := ?_) #[true, true, true, true, true, true, true, true, true, true, true, true, true, true, true, true, true, true, true, true, true] rfl rfl (by kernel_rfl) (fun _ _ _ h => h) (Or.inl ⟨by rfl, ?_⟩) ?_ ?_
    rotate_left
    · intro w'
      go_simp
      with_reducible rfl
    rotate_left
    · simp only [Act.put, List.setIfInBounds_toArray, List.set_cons_zero, List.set_cons_succ, i64_w, i32_w]
      rfl
    refine done_ (by kernel_rfl) ?_
    obtain ⟨⟨hcg4_0, hfg4_0⟩, ⟨hcg4_1, hfg4_1⟩, ⟨hcg4_2, hfg4_2⟩, ⟨hcg4_3, hfg4_3⟩, ⟨hcg4_4, hfg4_4⟩⟩ := cells5 BKg4.out
    obtain ⟨⟨hcg10_0, hfg10_0⟩, ⟨hcg10_1, hfg10_1⟩, ⟨hcg10_2, hfg10_2⟩, ⟨hcg10_3, hfg10_3⟩, ⟨hcg10_4, hfg10_4⟩⟩ := cells5 BKg10.out
    obtain ⟨⟨hcg14_0, hfg14_0⟩, ⟨hcg14_1, hfg14_1⟩, ⟨hcg14_2, hfg14_2⟩, ⟨hcg14_3, hfg14_3⟩, ⟨hcg14_4, hfg14_4⟩⟩ := cells5 BKg14.out
    obtain ⟨⟨hcg16_0, hfg16_0⟩, ⟨hcg16_1, hfg16_1⟩, ⟨hcg16_2, hfg16_2⟩, ⟨hcg16_3, hfg16_3⟩, ⟨hcg16_4, hfg16_4⟩⟩ := cells5 BKg16.out
    obtain ⟨⟨hcg18_0, hfg18_0⟩, ⟨hcg18_1, hfg18_1⟩, ⟨hcg18_2, hfg18_2⟩, ⟨hcg18_3, hfg18_3⟩, ⟨hcg18_4, hfg18_4⟩⟩ := cells5 BKg18.out
    obtain ⟨⟨hcg20_0, hfg20_0⟩, ⟨hcg20_1, hfg20_1⟩, ⟨hcg20_2, hfg20_2⟩, ⟨hcg20_3, hfg20_3⟩, ⟨hcg20_4, hfg20_4⟩⟩ := cells5 BKg20.out
    obtain ⟨⟨hcg22_0, hfg22_0⟩, ⟨hcg22_1, hfg22_1⟩, ⟨hcg22_2, hfg22_2⟩, ⟨hcg22_3, hfg22_3⟩, ⟨hcg22_4, hfg22_4⟩⟩ := cells5 BKg22.out
    obtain ⟨⟨hcg24_0, hfg24_0⟩, ⟨hcg24_1, hfg24_1⟩, ⟨hcg24_2, hfg24_2⟩, ⟨hcg24_3, hfg24_3⟩, ⟨hcg24_4, hfg24_4⟩⟩ := cells5 BKg24.out
    clear HOrp
    clear HOrq
    clear HOru
    (try clear hcg4_0 hfg4_0 hcg4_1 hfg4_1 hcg4_2 hfg4_2 hcg4_3 hfg4_3 hcg4_4 hfg4_4)
    (try clear hcg10_0 hfg10_0 hcg10_1 hfg10_1 hcg10_2 hfg10_2 hcg10_3 hfg10_3 hcg10_4 hfg10_4)
    (try clear hcg14_0 hfg14_0 hcg14_1 hfg14_1 hcg14_2 hfg14_2 hcg14_3 hfg14_3 hcg14_4 hfg14_4)
    (try clear hcg16_0 hfg16_0 hcg16_1 hfg16_1 hcg16_2 hfg16_2 hcg16_3 hfg16_3 hcg16_4 hfg16_4)
    (try clear hcg18_0 hfg18_0 hcg18_1 hfg18_1 hcg18_2 hfg18_2 hcg18_3 hfg18_3 hcg18_4 hfg18_4)
    (try clear hcg20_0 hfg20_0 hcg20_1 hfg20_1 hcg20_2 hfg20_2 hcg20_3 hfg20_3 hcg20_4 hfg20_4)
    (try clear hcg22_0 hfg22_0 hcg22_1 hfg22_1 hcg22_2 hfg22_2 hcg22_3 hfg22_3 hcg22_4 hfg22_4)
    (try clear hcg24_0 hfg24_0 hcg24_1 hfg24_1 hcg24_2 hfg24_2 hcg24_3 hfg24_3 hcg24_4 hfg24_4)
    obtain ⟨⟨hcg14_0, hfg14_0⟩, ⟨hcg14_1, hfg14_1⟩, ⟨hcg14_2, hfg14_2⟩, ⟨hcg14_3, hfg14_3⟩, ⟨hcg14_4, hfg14_4⟩⟩ := cells5 BKg14.out
    obtain ⟨⟨hcg16_0, hfg16_0⟩, ⟨hcg16_1, hfg16_1⟩, ⟨hcg16_2, hfg16_2⟩, ⟨hcg16_3, hfg16_3⟩, ⟨hcg16_4, hfg16_4⟩⟩ := cells5 BKg16.out
    have tok22 : True := trivial
    go_wp2_with (first | (have _ := tok22; go_at_call 28; (with_reducible refine (spoil_calls p0 p1 p2 p3 _ ps (Iv wc.heap.size w13.heap.size) k w _ (by repeat (first | exact HB.out | apply below_alloc | apply pw_below_drewN | apply below_drew1)) (Kd.S_below HOp.out (by repeat (first | exact Below.refl _ _ | apply below_alloc | apply pw_below_drewN | apply below_drew1))) SC1.out LN1.out).mono ?_); rintro e w37 ⟨rfl, hb, hk⟩; (try clear hcg14_0 hfg14_0 hcg14_1 hfg14_1 hcg14_2 hfg14_2 hcg14_3 hfg14_3 hcg14_4 hfg14_4); (try clear hcg16_0 hfg16_0 hcg16_1 hfg16_1 hcg16_2 hfg16_2 hcg16_3 hfg16_3 hcg16_4 hfg16_4); have hs : Kept w36 w37 (Iv wc.heap.size w13.heap.size) := kept_step (by repeat (first | exact Below.refl _ _ | apply below_alloc | apply pw_below_drewN | apply below_drew1)) hk; have SZ37 := Aside0.mk (show w36.heap.size ≤ w37.heap.size from hs.1); have q0_ := SZ1.out; have q1_ := SZ2.out; have q2_ := SZ3.out; have q3_ := SZ4.out; have q4_ := SZ5.out; have q5_ := SZ6.out; have q6_ := SZ7.out; have q7_ := SZ8.out; have q8_ := SZ9.out; have q9_ := SZ10.out; have q10_ := SZc.out; have q11_ := SZ13.out; have q12_ := SZ14.out; have q13_ := SZ15.out; have q14_ := SZ16.out; have q15_ := SZ17.out; have q16_ := SZ18.out; have q17_ := SZ19.out; have q18_ := SZ20.out; have q19_ := SZ21.out; have q20_ := SZ22.out; have q21_ := SZ23.out; have q22_ := SZ24.out; have q23_ := SZ25.out; have q24_ := SZ26.out; have q25_ := SZ27.out; have q26_ := SZ28.out; have q27_ := SZ29.out; have q28_ := SZ30.out; have q29_ := SZ31.out; have q30_ := SZ32.out; have q31_ := SZ33.out; have q32_ := SZ34.out; have q33_ := SZ35.out; have q34_ := SZ36.out; replace BKg4 := kb BKg4 hs (Iv_out (by omega)); replace HOx := sk HOx hs (Iv_apart (by omega)); replace BKg10 := kb BKg10 hs (Iv_out (by omega)); replace HOy := sk HOy hs (Iv_apart (by omega)); replace BKg12 := kb BKg12 hs (Iv_out (by omega)); replace BKg13 := kb BKg13 hs (Iv_out (by omega)); replace BKg14 := kb BKg14 hs (Iv_out (by omega)); replace HOq := sk HOq hs (Iv_apart (by omega)); replace BKg16 := kb BKg16 hs (Iv_out (by omega)); replace HOu := sk HOu hs (Iv_apart (by omega)); replace BKg18 := kb BKg18 hs (Iv_out (by omega)); replace BKg20 := kb BKg20 hs (Iv_out (by omega)); replace BKg22 := kb BKg22 hs (Iv_out (by omega)); replace BKg24 := kb BKg24 hs (Iv_out (by omega)); clear q0_ q1_ q2_ q3_ q4_ q5_ q6_ q7_ q8_ q9_ q10_ q11_ q12_ q13_ q14_ q15_ q16_ q17_ q18_ q19_ q20_ q21_ q22_ q23_ q24_ q25_ q26_ q27_ q28_ q29_ q30_ q31_ q32_ q33_ q34_; clear HOp; clear HB; have HB := Aside0.mk hb; clear hb hk hs; obtain ⟨⟨hcg14_0, hfg14_0⟩, ⟨hcg14_1, hfg14_1⟩, ⟨hcg14_2, hfg14_2⟩, ⟨hcg14_3, hfg14_3⟩, ⟨hcg14_4, hfg14_4⟩⟩ := cells5 BKg14.out; obtain ⟨⟨hcg16_0, hfg16_0⟩, ⟨hcg16_1, hfg16_1⟩, ⟨hcg16_2, hfg16_2⟩, ⟨hcg16_3, hfg16_3⟩, ⟨hcg16_4, hfg16_4⟩⟩ := cells5 BKg16.out; clear tok22))
    (try clear hcg14_0 hfg14_0 hcg14_1 hfg14_1 hcg14_2 hfg14_2 hcg14_3 hfg14_3 hcg14_4 hfg14_4)
    (try clear hcg16_0 hfg16_0 hcg16_1 hfg16_1 hcg16_2 hfg16_2 hcg16_3 hfg16_3 hcg16_4 hfg16_4)
    obtain ⟨⟨hcg16_0, hfg16_0⟩, ⟨hcg16_1, hfg16_1⟩, ⟨hcg16_2, hfg16_2⟩, ⟨hcg16_3, hfg16_3⟩, ⟨hcg16_4, hfg16_4⟩⟩ := cells5 BKg16.out
    obtain ⟨⟨hcg18_0, hfg18_0⟩, ⟨hcg18_1, hfg18_1⟩, ⟨hcg18_2, hfg18_2⟩, ⟨hcg18_3, hfg18_3⟩, ⟨hcg18_4, hfg18_4⟩⟩ := cells5 BKg18.out
    have tok23 : True := trivial
    go_wp2_with (first | (have _ := tok23; go_at_call 28; (with_reducible refine (spoil_calls q0 q1 q2 q3 _ qs (Iv w15.heap.size w16.heap.size) k w _ (by repeat (first | exact HB.out | apply below_alloc | apply pw_below_drewN | apply below_drew1)) (Kd.S_below HOq.out (by repeat (first | exact Below.refl _ _ | apply below_alloc | apply pw_below_drewN | apply below_drew1))) SC2.out LN2.out).mono ?_); rintro e w38 ⟨rfl, hb, hk⟩; (try clear hcg16_0 hfg16_0 hcg16_1 hfg16_1 hcg16_2 hfg16_2 hcg16_3 hfg16_3 hcg16_4 hfg16_4); (try clear hcg18_0 hfg18_0 hcg18_1 hfg18_1 hcg18_2 hfg18_2 hcg18_3 hfg18_3 hcg18_4 hfg18_4); have hs : Kept w37 w38 (Iv w15.heap.size w16.heap.size) := kept_step (by repeat (first | exact Below.refl _ _ | apply below_alloc | apply pw_below_drewN | apply below_drew1)) hk; have SZ38 := Aside0.mk (show w37.heap.size ≤ w38.heap.size from hs.1); have q0_ := SZ1.out; have q1_ := SZ2.out; have q2_ := SZ3.out; have q3_ := SZ4.out; have q4_ := SZ5.out; have q5_ := SZ6.out; have q6_ := SZ7.out; have q7_ := SZ8.out; have q8_ := SZ9.out; have q9_ := SZ10.out; have q10_ := SZc.out; have q11_ := SZ13.out; have q12_ := SZ14.out; have q13_ := SZ15.out; have q14_ := SZ16.out; have q15_ := SZ17.out; have q16_ := SZ18.out; have q17_ := SZ19.out; have q18_ := SZ20.out; have q19_ := SZ21.out; have q20_ := SZ22.out; have q21_ := SZ23.out; have q22_ := SZ24.out; have q23_ := SZ25.out; have q24_ := SZ26.out; have q25_ := SZ27.out; have q26_ := SZ28.out; have q27_ := SZ29.out; have q28_ := SZ30.out; have q29_ := SZ31.out; have q30_ := SZ32.out; have q31_ := SZ33.out; have q32_ := SZ34.out; have q33_ := SZ35.out; have q34_ := SZ36.out; have q35_ := SZ37.out; replace BKg4 := kb BKg4 hs (Iv_out (by omega)); replace HOx := sk HOx hs (Iv_apart (by omega)); replace BKg10 := kb BKg10 hs (Iv_out (by omega)); replace HOy := sk HOy hs (Iv_apart (by omega)); replace BKg12 := kb BKg12 hs (Iv_out (by omega)); replace BKg13 := kb BKg13 hs (Iv_out (by omega)); replace BKg14 := kb BKg14 hs (Iv_out (by omega)); replace BKg16 := kb BKg16 hs (Iv_out (by omega)); replace HOu := sk HOu hs (Iv_apart (by omega)); replace BKg18 := kb BKg18 hs (Iv_out (by omega)); replace BKg20 := kb BKg20 hs (Iv_out (by omega)); replace BKg22 := kb BKg22 hs (Iv_out (by omega)); replace BKg24 := kb BKg24 hs (Iv_out (by omega)); clear q0_ q1_ q2_ q3_ q4_ q5_ q6_ q7_ q8_ q9_ q10_ q11_ q12_ q13_ q14_ q15_ q16_ q17_ q18_ q19_ q20_ q21_ q22_ q23_ q24_ q25_ q26_ q27_ q28_ q29_ q30_ q31_ q32_ q33_ q34_ q35_; clear HOq; clear HB; have HB := Aside0.mk hb; clear hb hk hs; obtain ⟨⟨hcg16_0, hfg16_0⟩, ⟨hcg16_1, hfg16_1⟩, ⟨hcg16_2, hfg16_2⟩, ⟨hcg16_3, hfg16_3⟩, ⟨hcg16_4, hfg16_4⟩⟩ := cells5 BKg16.out; obtain ⟨⟨hcg18_0, hfg18_0⟩, ⟨hcg18_1, hfg18_1⟩, ⟨hcg18_2, hfg18_2⟩, ⟨hcg18_3, hfg18_3⟩, ⟨hcg18_4, hfg18_4⟩⟩ := cells5 BKg18.out; clear tok23))
    (try clear hcg16_0 hfg16_0 hcg16_1 hfg16_1 hcg16_2 hfg16_2 hcg16_3 hfg16_3 hcg16_4 hfg16_4)
    (try clear hcg18_0 hfg18_0 hcg18_1 hfg18_1 hcg18_2 hfg18_2 hcg18_3 hfg18_3 hcg18_4 hfg18_4)
    obtain ⟨⟨hcg4_0, hfg4_0⟩, ⟨hcg4_1, hfg4_1⟩, ⟨hcg4_2, hfg4_2⟩, ⟨hcg4_3, hfg4_3⟩, ⟨hcg4_4, hfg4_4⟩⟩ := cells5 BKg4.out
    obtain ⟨⟨hcg10_0, hfg10_0⟩, ⟨hcg10_1, hfg10_1⟩, ⟨hcg10_2, hfg10_2⟩, ⟨hcg10_3, hfg10_3⟩, ⟨hcg10_4, hfg10_4⟩⟩ := cells5 BKg10.out
    obtain ⟨⟨hcg18_0, hfg18_0⟩, ⟨hcg18_1, hfg18_1⟩, ⟨hcg18_2, hfg18_2⟩, ⟨hcg18_3, hfg18_3⟩, ⟨hcg18_4, hfg18_4⟩⟩ := cells5 BKg18.out
    have tok24 : True := trivial
    go_wp2_with (first | (have _ := tok24; go_at_call 28; (with_reducible refine (spoil_calls u0 u1 u2 u3 _ us (Iv w18.heap.size w19.heap.size) k w _ (by repeat (first | exact HB.out | apply below_alloc | apply pw_below_drewN | apply below_drew1)) (Kd.S_below HOu.out (by repeat (first | exact Below.refl _ _ | apply below_alloc | apply pw_below_drewN | apply below_drew1))) SC3.out LN3.out).mono ?_); rintro e w39 ⟨rfl, hb, hk⟩; (try clear hcg4_0 hfg4_0 hcg4_1 hfg4_1 hcg4_2 hfg4_2 hcg4_3 hfg4_3 hcg4_4 hfg4_4); (try clear hcg10_0 hfg10_0 hcg10_1 hfg10_1 hcg10_2 hfg10_2 hcg10_3 hfg10_3 hcg10_4 hfg10_4); (try clear hcg18_0 hfg18_0 hcg18_1 hfg18_1 hcg18_2 hfg18_2 hcg18_3 hfg18_3 hcg18_4 hfg18_4); have hs : Kept w38 w39 (Iv w18.heap.size w19.heap.size) := kept_step (by repeat (first | exact Below.refl _ _ | apply below_alloc | apply pw_below_drewN | apply below_drew1)) hk; have SZ39 := Aside0.mk (show w38.heap.size ≤ w39.heap.size from hs.1); have q0_ := SZ1.out; have q1_ := SZ2.out; have q2_ := SZ3.out; have q3_ := SZ4.out; have q4_ := SZ5.out; have q5_ := SZ6.out; have q6_ := SZ7.out; have q7_ := SZ8.out; have q8_ := SZ9.out; have q9_ := SZ10.out; have q10_ := SZc.out; have q11_ := SZ13.out; have q12_ := SZ14.out; have q13_ := SZ15.out; have q14_ := SZ16.out; have q15_ := SZ17.out; have q16_ := SZ18.out; have q17_ := SZ19.out; have q18_ := SZ20.out; have q19_ := SZ21.out; have q20_ := SZ22.out; have q21_ := SZ23.out; have q22_ := SZ24.out; have q23_ := SZ25.out; have q24_ := SZ26.out; have q25_ := SZ27.out; have q26_ := SZ28.out; have q27_ := SZ29.out; have q28_ := SZ30.out; have q29_ := SZ31.out; have q30_ := SZ32.out; have q31_ := SZ33.out; have q32_ := SZ34.out; have q33_ := SZ35.out; have q34_ := SZ36.out; have q35_ := SZ37.out; have q36_ := SZ38.out; replace BKg4 := kb BKg4 hs (Iv_out (by omega)); replace HOx := sk HOx hs (Iv_apart (by omega)); replace BKg10 := kb BKg10 hs (Iv_out (by omega)); replace HOy := sk HOy hs (Iv_apart (by omega)); replace BKg12 := kb BKg12 hs (Iv_out (by omega)); replace BKg13 := kb BKg13 hs (Iv_out (by omega)); replace BKg14 := kb BKg14 hs (Iv_out (by omega)); replace BKg16 := kb BKg16 hs (Iv_out (by omega)); replace BKg18 := kb BKg18 hs (Iv_out (by omega)); replace BKg20 := kb BKg20 hs (Iv_out (by omega)); replace BKg22 := kb BKg22 hs (Iv_out (by omega)); replace BKg24 := kb BKg24 hs (Iv_out (by omega)); clear q0_ q1_ q2_ q3_ q4_ q5_ q6_ q7_ q8_ q9_ q10_ q11_ q12_ q13_ q14_ q15_ q16_ q17_ q18_ q19_ q20_ q21_ q22_ q23_ q24_ q25_ q26_ q27_ q28_ q29_ q30_ q31_ q32_ q33_ q34_ q35_ q36_; clear HOu; clear HB; have HB := Aside0.mk hb; clear hb hk hs; obtain ⟨⟨hcg4_0, hfg4_0⟩, ⟨hcg4_1, hfg4_1⟩, ⟨hcg4_2, hfg4_2⟩, ⟨hcg4_3, hfg4_3⟩, ⟨hcg4_4, hfg4_4⟩⟩ := cells5 BKg4.out; obtain ⟨⟨hcg10_0, hfg10_0⟩, ⟨hcg10_1, hfg10_1⟩, ⟨hcg10_2, hfg10_2⟩, ⟨hcg10_3, hfg10_3⟩, ⟨hcg10_4, hfg10_4⟩⟩ := cells5 BKg10.out; obtain ⟨⟨hcg18_0, hfg18_0⟩, ⟨hcg18_1, hfg18_1⟩, ⟨hcg18_2, hfg18_2⟩, ⟨hcg18_3, hfg18_3⟩, ⟨hcg18_4, hfg18_4⟩⟩ := cells5 BKg18.out; clear tok24))
    (try clear hcg4_0 hfg4_0 hcg4_1 hfg4_1 hcg4_2 hfg4_2 hcg4_3 hfg4_3 hcg4_4 hfg4_4)
    (try clear hcg10_0 hfg10_0 hcg10_1 hfg10_1 hcg10_2 hfg10_2 hcg10_3 hfg10_3 hcg10_4 hfg10_4)
    (try clear hcg18_0 hfg18_0 hcg18_1 hfg18_1 hcg18_2 hfg18_2 hcg18_3 hfg18_3 hcg18_4 hfg18_4)
    obtain ⟨⟨hcg4_0, hfg4_0⟩, ⟨hcg4_1, hfg4_1⟩, ⟨hcg4_2, hfg4_2⟩, ⟨hcg4_3, hfg4_3⟩, ⟨hcg4_4, hfg4_4⟩⟩ := cells5 BKg4.out
    obtain ⟨⟨hcg10_0, hfg10_0⟩, ⟨hcg10_1, hfg10_1⟩, ⟨hcg10_2, hfg10_2⟩, ⟨hcg10_3, hfg10_3⟩, ⟨hcg10_4, hfg10_4⟩⟩ := cells5 BKg10.out
    have tok25 : True := trivial
    go_wp2_with (first | (have _ := tok25; go_at_call 26; (with_reducible refine (twoslotref09_Same.calls k a b c d x_A x_c sl a b c d Am cm sl true _ ?s1 (Kd.S_reads' HOx.out).2.1 ?s2 HCM.out HS4.out).mono ?_); (case s1 => exact (Kd.S_reads' (Kd.S_below HOx.out (by repeat (first | exact Below.refl _ _ | apply below_alloc | apply pw_below_drewN | apply below_drew1)))).2.2); (case s2 => exact Kd.C_below HCm.out (by repeat (first | exact HB.out | apply below_alloc | apply pw_below_drewN | apply below_drew1))); rintro e w40 ⟨rfl, hb⟩; (try clear hcg4_0 hfg4_0 hcg4_1 hfg4_1 hcg4_2 hfg4_2 hcg4_3 hfg4_3 hcg4_4 hfg4_4); (try clear hcg10_0 hfg10_0 hcg10_1 hfg10_1 hcg10_2 hfg10_2 hcg10_3 hfg10_3 hcg10_4 hfg10_4); have hs : Below w39.heap.size w39 w40 := below_step (by repeat (first | exact Below.refl _ _ | apply below_alloc | apply pw_below_drewN | apply below_drew1)) hb; have hl : w39.heap.size ≤ _ := below_size (w := w39) (by repeat (first | exact Below.refl _ _ | apply below_alloc | apply pw_below_drewN | apply below_drew1)); have SZ40 := Aside0.mk (show w39.heap.size ≤ w40.heap.size from hs.size); replace BKg4 := bb BKg4 hs; replace HOx := sb HOx hs; replace BKg10 := bb BKg10 hs; replace HOy := sb HOy hs; replace BKg12 := bb BKg12 hs; replace BKg13 := bb BKg13 hs; replace BKg14 := bb BKg14 hs; replace BKg16 := bb BKg16 hs; replace BKg18 := bb BKg18 hs; replace BKg20 := bb BKg20 hs; replace BKg22 := bb BKg22 hs; replace BKg24 := bb BKg24 hs; replace HB := hbs HB hs; clear hb hs; (try clear hl); obtain ⟨⟨hcg4_0, hfg4_0⟩, ⟨hcg4_1, hfg4_1⟩, ⟨hcg4_2, hfg4_2⟩, ⟨hcg4_3, hfg4_3⟩, ⟨hcg4_4, hfg4_4⟩⟩ := cells5 BKg4.out; obtain ⟨⟨hcg10_0, hfg10_0⟩, ⟨hcg10_1, hfg10_1⟩, ⟨hcg10_2, hfg10_2⟩, ⟨hcg10_3, hfg10_3⟩, ⟨hcg10_4, hfg10_4⟩⟩ := cells5 BKg10.out; clear tok25; have tok26 : True := trivial) | (have _ := tok26; go_at_call 29; (with_reducible refine (twoslotref09_SamePuts.calls k y_A y_c l Al cl l true _ ?s1 (Kd.S_reads' HOy.out).2.1 ?s2 HCL.out HS5.out).mono ?_); (case s1 => exact (Kd.S_reads' (Kd.S_below HOy.out (by repeat (first | exact Below.refl _ _ | apply below_alloc | apply pw_below_drewN | apply below_drew1)))).2.2); (case s2 => exact Kd.C_below HCl.out (by repeat (first | exact HB.out | apply below_alloc | apply pw_below_drewN | apply below_drew1))); rintro e w41 ⟨rfl, hd⟩; have hb := hd.below; (try clear hcg4_0 hfg4_0 hcg4_1 hfg4_1 hcg4_2 hfg4_2 hcg4_3 hfg4_3 hcg4_4 hfg4_4); (try clear hcg10_0 hfg10_0 hcg10_1 hfg10_1 hcg10_2 hfg10_2 hcg10_3 hfg10_3 hcg10_4 hfg10_4); have hs : Below w40.heap.size w40 w41 := below_step (by repeat (first | exact Below.refl _ _ | apply below_alloc | apply pw_below_drewN | apply below_drew1)) hb; have SZ41 := Aside0.mk (show w40.heap.size ≤ w41.heap.size from hs.size); replace BKg4 := bb BKg4 hs; replace HOx := sb HOx hs; replace BKg10 := bb BKg10 hs; replace HOy := sb HOy hs; replace BKg12 := bb BKg12 hs; replace BKg13 := bb BKg13 hs; replace BKg14 := bb BKg14 hs; replace BKg16 := bb BKg16 hs; replace BKg18 := bb BKg18 hs; replace BKg20 := bb BKg20 hs; replace BKg22 := bb BKg22 hs; replace BKg24 := bb BKg24 hs; replace HB := hbs HB hs; clear hb hd hs; obtain ⟨⟨hcg4_0, hfg4_0⟩, ⟨hcg4_1, hfg4_1⟩, ⟨hcg4_2, hfg4_2⟩, ⟨hcg4_3, hfg4_3⟩, ⟨hcg4_4, hfg4_4⟩⟩ := cells5 BKg4.out; obtain ⟨⟨hcg10_0, hfg10_0⟩, ⟨hcg10_1, hfg10_1⟩, ⟨hcg10_2, hfg10_2⟩, ⟨hcg10_3, hfg10_3⟩, ⟨hcg10_4, hfg10_4⟩⟩ := cells5 BKg10.out; clear tok26))
    go_ret
    exact ⟨by first | rfl | simp, HB.out⟩
end Go.Proofs.Ytcnmocbiekfpbaa.P
