import Derived.Test.YtcnmocbiekfpbaaP0Brief
import Derived.Test.YtcnmocbiekfpbaaP0Sep
import Derived.Test.YtcnmocbiekfpbaaPx0
import Derived.Test.YtcnmocbiekfpbaaPx7
import Derived.Test.YtcnmocbiekfpbaaPx8
import Derived.Test.YtcnmocbiekfpbaaPx15
import Derived.Test.YtcnmocbiekfpbaaPx16
import Derived.Test.YtcnmocbiekfpbaaPx17
import Derived.Test.YtcnmocbiekfpbaaPx19
import Derived.Test.YtcnmocbiekfpbaaPx20
import Derived.Test.YtcnmocbiekfpbaaPx24
import Derived.Test.YtcnmocbiekfpbaaPx25
import Derived.Test.YtcnmocbiekfpbaaPx26
import Derived.Test.YtcnmocbiekfpbaaPx27
import Derived.Test.YtcnmocbiekfpbaaPx28
import Derived.Test.YtcnmocbiekfpbaaWApart
import Derived.Test.YtcnmocbiekfpbaaWKept
import Derived.Test.YtcnmocbiekfpbaaWFoot
import Derived.Test.YtcnmocbiekfpbaaWShare
namespace Go.Proofs.Ytcnmocbiekfpbaa.P
open Go.RowKit Go.Proofs.YtcnmocbiekfpbaaW.PrintWords Go.Proofs.YtcnmocbiekfpbaaW.PrintLast Go.Proofs.YtcnmocbiekfpbaaW.PrintMore
attribute [local go_sem] max2_int min2_int max_two min_two max_three min_three max_four min_four
set_option linter.unusedVariables false
set_option linter.unusedSimpArgs false
/-! ### Words for a walk that writes over what was made -/
theorem S_iv {α : Type} {d : Kd α} {e : Nat} {W w1 : World} {ok : Nat → Prop} {v : Value} {xs : List α} (h : Kd.S d e w1 W.heap.size ok v xs) {base lo : Nat} (hb : base ≤ W.heap.size) (hl : lo ≤ W.heap.size) : Kd.S d e w1 base (Iv lo w1.heap.size) v xs :=
  Kd.S_mono (Kd.S_lower (Kd.S_bound h) hb) (fun _ hk => ⟨Nat.le_trans hl hk.2.1, hk.2.2.1⟩)
/-- What came in ahead of all, or was made between lo and hi. -/
def Ivw (b lo hi k : Nat) : Prop := k < b ∨ Iv lo hi k
theorem Ivw_ne {b lo hi g : Nat} (h : b ≤ g ∧ (g < lo ∨ hi ≤ g)) : ∀ k, Ivw b lo hi k → k ≠ g := by
  rintro k (hk | hk) rfl
  · omega
  · unfold Iv at hk
    omega
theorem Ivw_apart {b lo hi g g2 : Nat} (h : (b ≤ g) ∧ (g2 ≤ lo ∨ hi ≤ g)) : ∀ k, Ivw b lo hi k → ¬ Iv g g2 k := by
  rintro k (hk | hk) h2
  · unfold Iv at h2
    omega
  · unfold Iv at hk h2
    omega
theorem N_ivw {α : Type} {d : Kd α} {e base b lo : Nat} {w1 : World} {ok : Nat → Prop} {v : Value} {xs : List α} (h : Kd.N d e w1 base ok v xs) (ho : ∀ k, ok k → k < b ∨ lo ≤ k) : Kd.N d e w1 base (Ivw b lo w1.heap.size) v xs :=
  Kd.N_mono (Kd.N_bound h) (fun k hk => (ho k hk.1).imp_right (fun h => ⟨h, hk.2⟩))
theorem V_came {w W : World} {base c : Nat} {A : Option Addr} {xs : List Int} (h : Kd.C (Kd.int .u8) w A xs.length xs) (hl : xs.length ≤ c) (hb : Below w.heap.size w W) : Kd.V (Kd.int .u8) 5 W base (fun k => k < w.heap.size) (.slice A xs.length c) xs := by
  refine Kd.V_mk hl (fun W' hW => ?_)
  have hs := hb.size
  have hm : ∀ k, k < w.heap.size → W'.heap[k]? = w.heap[k]? := fun k hk => (hW k hk (by omega)).trans (hb.block k hk)
  refine Kd.C_kept_came (S := fun _ => False) (Kd.heap_int .u8) h (Below.refl _ _) (fun _ h => h.elim) W' ⟨?_, fun i hi _ => hm i hi⟩
  by_cases h0 : w.heap.size = 0
  · omega
  · have h1 := hm (w.heap.size - 1) (by omega)
    rw [Array.getElem?_eq_getElem (show w.heap.size - 1 < w.heap.size by omega)] at h1
    have := (Array.getElem?_eq_some_iff.mp h1).1
    omega
theorem S_first {w : World} {base g n cap lo hi : Nat} {l : List S35} (h : Kd.S k35 35 w base (Iv lo hi) (.slice (some ⟨g, 0, none⟩) n cap) l) (hl : 0 < l.length) :
    ∃ (B : Option Addr) (e : Nat), w.cell? ⟨g, 0, none⟩ = some (.int .i64 (rd_T35 l 0).f0) ∧ w.cell? ⟨g, 1, none⟩ = some (.int .i64 (rd_T35 l 0).f1) ∧ w.cell? ⟨g, 2, none⟩ = some (.int .i64 (rd_T35 l 0).f2) ∧ w.cell? ⟨g, 3, none⟩ = some (.slice B (rd_T35 l 0).f3.length e) ∧ Kd.R (Kd.int .u8) 5 w base (Iv lo hi) (.slice B (rd_T35 l 0).f3.length e) (rd_T35 l 0).f3 := by
  have hn := (Kd.S_reads' h).1
  obtain ⟨oki, c, hcl, hM, hcc, _, hok, _⟩ := Kd.S_elem h z35 0 (by omega) (by omega)
  obtain ⟨v3, rfl, hR⟩ := k35_openM hM
  obtain ⟨B, e, rfl⟩ := Kd.R_slice hR
  exact ⟨B, e, hcc 0 _ rfl, hcc 1 _ rfl, hcc 2 _ rfl, hcc 3 _ rfl, Kd.R_mono hR (fun k hk => (hok k hk).1)⟩
/-- Pairs' slices laid open, a row of none too. -/
theorem P_open {base n cap : Nat} {ok : Nat → Prop} {W : World} {A : Option Addr} {xs : List S59} (h : Kd.S kp59 59 W base ok (.slice A n cap) xs) :
    ∃ (g : Nat) (okj : Nat → Nat → Prop) (vs : Nat → Value), (0 < n → A = some ⟨g, 0, none⟩) ∧ (∀ j, j < 2 * n → W.cell? ⟨g, j, none⟩ = some (vs j)) ∧ (∀ j, j < 2 * n → (Kd.int .u8).R 5 W base (okj j) (vs j) (row2 xs j)) ∧ (∀ j k, okj j k → ok k ∧ k ≠ g ∧ k < W.heap.size) ∧ (∀ i j k, okj i k → okj j k → i = j) := by
  by_cases hn : 0 < n
  · have hl := (Kd.S_reads' h).1
    obtain ⟨g, cap', e, _⟩ := Kd.S_form h (by omega)
    injection e with e1 _ _
    subst e1
    obtain ⟨okj, vs, h1, h2, h3, h4⟩ := P_split h
    exact ⟨g, okj, vs, fun _ => rfl, h1, h2, h3, h4⟩
  · exact ⟨0, fun _ _ => False, fun _ => .bool true, fun h => absurd h hn, fun j hj => by omega, fun j hj => by omega, fun _ _ h => h.elim, fun _ _ _ h => h.elim⟩
theorem D_open {base n cap : Nat} {ok : Nat → Prop} {W : World} {A : Option Addr} {xs : List S35} (h : Kd.S k35 35 W base ok (.slice A n cap) xs) :
    ∃ (g : Nat) (okj : Nat → Nat → Prop) (vs : Nat → Value), (0 < n → A = some ⟨g, 0, none⟩) ∧ (∀ j, j < n → W.cell? ⟨g, j * 4 + 3, none⟩ = some (vs j)) ∧ (∀ j, j < n → (Kd.int .u8).R 5 W base (okj j) (vs j) (xs.getD j z35).f3) ∧ (∀ j k, okj j k → ok k ∧ k ≠ g ∧ k < W.heap.size) ∧ (∀ i j k, okj i k → okj j k → i = j) := by
  by_cases hn : 0 < n
  · have hl := (Kd.S_reads' h).1
    obtain ⟨g, cap', e, _⟩ := Kd.S_form h (by omega)
    injection e with e1 _ _
    subst e1
    obtain ⟨okj, vs, h1, h2, h3, h4⟩ := D_split h
    exact ⟨g, okj, vs, fun _ => rfl, h1, h2, h3, h4⟩
  · exact ⟨0, fun _ _ => False, fun _ => .bool true, fun h => absurd h hn, fun j hj => by omega, fun j hj => by omega, fun _ _ h => h.elim, fun _ _ _ h => h.elim⟩
set_option maxHeartbeats 8000000 in
set_option maxRecDepth 100000 in
theorem ImageRows_walk (k : Nat) (a b c d : Int) (Am : Option Addr) (cm : Nat) (sl : List (List Int)) (i1 i2 i3 i4 : Int) (Bm : Option Addr) (cb : Nat) (yl : List (List Int)) (n p0 p1 p2 p3 : Int) (w : World) (hCm : Kd.C (Kd.slice 5 (Kd.int .u8)) w Am sl.length sl) (hcm : sl.length ≤ cm) (hCb : Kd.C (Kd.slice 5 (Kd.int .u8)) w Bm yl.length yl) (hcb : yl.length ≤ cb) (rs : List S59) (e1 : Int) (ds : List S35) (e2 : Int) (q0 q1 q2 q3 : Int) (bs : List (List Int)) (e3 : Int) (sm : Bool) (hma : twoslotlaw09_much.f a b c d sl = some false) (hmb : twoslotlaw09_much.f i1 i2 i3 i4 yl = some false) (htx : twoslotref09_Twin.f k a b c d sl = some (a, b, c, d, sl)) (hty : twoslotref09_Twin.f k i1 i2 i3 i4 yl = some (i1, i2, i3, i4, yl)) (hro : image_Row.f k a b c d sl n = some (rs, e1)) (hdi : image_Diff.f k a b c d sl i1 i2 i3 i4 yl = some (ds, e2)) (hbl : image_Blank.f p0 p1 p2 p3 = some (q0, q1, q2, q3, bs, e3)) (rro : twoslotref09_Row.f k a b c d sl n = some (rs, e1)) (rdi : twoslotref09_Diff.f k a b c d sl i1 i2 i3 i4 yl = some (ds, e2)) (rbl : twoslotref09_Blank.f p0 p1 p2 p3 = some (q0, q1, q2, q3, bs, e3)) (hsp : twoslotref09_SamePairs.f k rs rs = some true) (hsu : twoslotref09_SamePuts.f k ds ds = some true) (hsb : twoslotref09_Same.f k q0 q1 q2 q3 bs q0 q1 q2 q3 bs = some true) (him : image_Same.f k a b c d sl i1 i2 i3 i4 yl = some sm) (rsm : twoslotref09_Same.f k a b c d sl i1 i2 i3 i4 yl = some sm) (hs1 : twoslotref09_Same.f k a b c d sl a b c d sl = some true) (hs2 : twoslotref09_Same.f k i1 i2 i3 i4 yl i1 i2 i3 i4 yl = some true) (scr : ∀ m, m < 2 * rs.length → twoslotlaw09_scratch.f k (row2 rs m) = some ()) (scd : ∀ m, m < ds.length → twoslotlaw09_scratch.f k (ds.getD m z35).f3 = some ()) (lnr : rs.length ≤ 1000000) (lnd : ds.length ≤ 1000000) : Calls Try.prog 5 #[.agg #[.int .i64 a, .int .i64 b, .int .i64 c, .int .i64 d, .slice Am sl.length cm], .agg #[.int .i64 i1, .int .i64 i2, .int .i64 i3, .int .i64 i4, .slice Bm yl.length cb], .int .i64 n, .agg #[.int .i64 p0, .int .i64 p1, .int .i64 p2, .int .i64 p3]] w fun e w' => e = .returned (.bool true) ∧ Below w.heap.size w w' := by
  have hu27 := Try.underlying27
  have hu24 := Try.underlying24
  have hu35 := Try.underlying35
  have HB := Aside0.mk (Below.refl w.heap.size w)
  have HCm := Aside0.mk hCm
  have HCM := Aside0.mk hcm
  have HCb := Aside0.mk hCb
  have HCB := Aside0.mk hcb
  have HMA := Aside0.mk hma
  have HMB := Aside0.mk hmb
  have HTX := Aside0.mk htx
  have HTY := Aside0.mk hty
  have HRO := Aside0.mk hro
  have HDI := Aside0.mk hdi
  have HBL := Aside0.mk hbl
  have RRO := Aside0.mk rro
  have RDI := Aside0.mk rdi
  have RBL := Aside0.mk rbl
  have HSP := Aside0.mk hsp
  have HSU := Aside0.mk hsu
  have HSB := Aside0.mk hsb
  have HIM := Aside0.mk him
  have RSM := Aside0.mk rsm
  have HS1 := Aside0.mk hs1
  have HS2 := Aside0.mk hs2
  have SCR := Aside0.mk scr
  have SCD := Aside0.mk scd
  have LNR := Aside0.mk lnr
  have LND := Aside0.mk lnd
  clear hCm hcm hCb hcb hma hmb htx hty hro hdi hbl rro rdi rbl hsp hsu hsb him rsm hs1 hs2 scr scd lnr lnd
  go_enter Try.func5, Try.ntmps5
  have tok1 : True := trivial
  go_wp2_with (first | (have _ := tok1; (with_reducible refine gate_dst (N := 4) rfl ?_); refine box_event ?hg (N := 4) ?hd (cs := #[.int .i64 a, .int .i64 b, .int .i64 c, .int .i64 d, .slice Am sl.length cm]) (t := 27) ?hr ?_; (case hd => rfl); (case hg => rfl); (case hr => first | (go_simp; done) | (go_simp; rfl)); intro g4 hg w1 hbox hb; have hs : Below w.heap.size w w1 := below_step (by repeat (first | exact Below.refl _ _ | apply below_alloc | apply pw_below_drewN | apply below_drew1)) hb; have SZ1 := Aside0.mk (show w.heap.size ≤ g4 ∧ g4 < w1.heap.size from ⟨by rw [hg]; exact (below_size (by repeat (first | exact Below.refl _ _ | apply below_alloc | apply pw_below_drewN | apply below_drew1))), blk_lt hbox⟩); replace HB := hbs HB hs; have q0_ := SZ1.out; clear q0_; have BKg4 := Aside0.mk hbox; clear hb hbox hg hs; obtain ⟨⟨hcg4_0, hfg4_0⟩, ⟨hcg4_1, hfg4_1⟩, ⟨hcg4_2, hfg4_2⟩, ⟨hcg4_3, hfg4_3⟩, ⟨hcg4_4, hfg4_4⟩⟩ := cells5 BKg4.out; clear tok1; have tok2 : True := trivial) | (have _ := tok2; (with_reducible refine gate_dst (N := 5) rfl ?_); refine box_event ?hg (N := 5) ?hd (cs := #[.int .i64 i1, .int .i64 i2, .int .i64 i3, .int .i64 i4, .slice Bm yl.length cb]) (t := 27) ?hr ?_; (case hd => rfl); (case hg => rfl); (case hr => first | (go_simp; done) | (go_simp; rfl)); intro g5 hg w2 hbox hb; have hs : Below w1.heap.size w1 w2 := below_step (by repeat (first | exact Below.refl _ _ | apply below_alloc | apply pw_below_drewN | apply below_drew1)) hb; have SZ2 := Aside0.mk (show w1.heap.size ≤ g5 ∧ g5 < w2.heap.size from ⟨by rw [hg]; exact (below_size (by repeat (first | exact Below.refl _ _ | apply below_alloc | apply pw_below_drewN | apply below_drew1))), blk_lt hbox⟩); (try clear hcg4_0 hfg4_0 hcg4_1 hfg4_1 hcg4_2 hfg4_2 hcg4_3 hfg4_3 hcg4_4 hfg4_4); replace BKg4 := bb BKg4 hs; replace HB := hbs HB hs; have q0_ := SZ1.out; have q1_ := SZ2.out; have hneg4_g5 : g4 ≠ g5 := (by omega); have hneg5_g4 := hneg4_g5.symm; clear q0_ q1_; have BKg5 := Aside0.mk hbox; clear hb hbox hg hs; obtain ⟨⟨hcg4_0, hfg4_0⟩, ⟨hcg4_1, hfg4_1⟩, ⟨hcg4_2, hfg4_2⟩, ⟨hcg4_3, hfg4_3⟩, ⟨hcg4_4, hfg4_4⟩⟩ := cells5 BKg4.out; obtain ⟨⟨hcg5_0, hfg5_0⟩, ⟨hcg5_1, hfg5_1⟩, ⟨hcg5_2, hfg5_2⟩, ⟨hcg5_3, hfg5_3⟩, ⟨hcg5_4, hfg5_4⟩⟩ := cells5 BKg5.out; clear tok2; have tok3 : True := trivial) | (have _ := tok3; (with_reducible refine gate_dst (N := 7) rfl ?_); refine box_event ?hg (N := 7) ?hd (cs := #[.int .i64 p0, .int .i64 p1, .int .i64 p2, .int .i64 p3]) (t := 24) ?hr ?_; (case hd => rfl); (case hg => rfl); (case hr => first | (go_simp; done) | (go_simp; rfl)); intro g7 hg w3 hbox hb; have hs : Below w2.heap.size w2 w3 := below_step (by repeat (first | exact Below.refl _ _ | apply below_alloc | apply pw_below_drewN | apply below_drew1)) hb; have SZ3 := Aside0.mk (show w2.heap.size ≤ g7 ∧ g7 < w3.heap.size from ⟨by rw [hg]; exact (below_size (by repeat (first | exact Below.refl _ _ | apply below_alloc | apply pw_below_drewN | apply below_drew1))), blk_lt hbox⟩); (try clear hcg4_0 hfg4_0 hcg4_1 hfg4_1 hcg4_2 hfg4_2 hcg4_3 hfg4_3 hcg4_4 hfg4_4); (try clear hcg5_0 hfg5_0 hcg5_1 hfg5_1 hcg5_2 hfg5_2 hcg5_3 hfg5_3 hcg5_4 hfg5_4); replace BKg4 := bb BKg4 hs; replace BKg5 := bb BKg5 hs; replace HB := hbs HB hs; have q0_ := SZ1.out; have q1_ := SZ2.out; have q2_ := SZ3.out; have hneg4_g7 : g4 ≠ g7 := (by omega); have hneg7_g4 := hneg4_g7.symm; have hneg5_g7 : g5 ≠ g7 := (by omega); have hneg7_g5 := hneg5_g7.symm; clear q0_ q1_ q2_; have BKg7 := Aside0.mk hbox; clear hb hbox hg hs; obtain ⟨⟨hcg4_0, hfg4_0⟩, ⟨hcg4_1, hfg4_1⟩, ⟨hcg4_2, hfg4_2⟩, ⟨hcg4_3, hfg4_3⟩, ⟨hcg4_4, hfg4_4⟩⟩ := cells5 BKg4.out; obtain ⟨⟨hcg5_0, hfg5_0⟩, ⟨hcg5_1, hfg5_1⟩, ⟨hcg5_2, hfg5_2⟩, ⟨hcg5_3, hfg5_3⟩, ⟨hcg5_4, hfg5_4⟩⟩ := cells5 BKg5.out; obtain ⟨⟨hcg7_0, hfg7_0⟩, ⟨hcg7_1, hfg7_1⟩, ⟨hcg7_2, hfg7_2⟩, ⟨hcg7_3, hfg7_3⟩⟩ := cells4 BKg7.out; clear tok3; have tok4 : True := trivial) | (have _ := tok4; go_at_call 9; (with_reducible refine (twoslotlaw09_alive.calls true _ rfl).mono ?_); rintro e w4 ⟨rfl, hb⟩; (try clear hcg4_0 hfg4_0 hcg4_1 hfg4_1 hcg4_2 hfg4_2 hcg4_3 hfg4_3 hcg4_4 hfg4_4); (try clear hcg5_0 hfg5_0 hcg5_1 hfg5_1 hcg5_2 hfg5_2 hcg5_3 hfg5_3 hcg5_4 hfg5_4); (try clear hcg7_0 hfg7_0 hcg7_1 hfg7_1 hcg7_2 hfg7_2 hcg7_3 hfg7_3); have hs : Below w3.heap.size w3 w4 := below_step (by repeat (first | exact Below.refl _ _ | apply below_alloc | apply pw_below_drewN | apply below_drew1)) hb; have hl : w3.heap.size ≤ _ := below_size (w := w3) (by repeat (first | exact Below.refl _ _ | apply below_alloc | apply pw_below_drewN | apply below_drew1)); have SZ4 := Aside0.mk (show w3.heap.size ≤ w4.heap.size from hs.size); replace BKg4 := bb BKg4 hs; replace BKg5 := bb BKg5 hs; replace BKg7 := bb BKg7 hs; replace HB := hbs HB hs; clear hb hs; (try clear hl); obtain ⟨⟨hcg4_0, hfg4_0⟩, ⟨hcg4_1, hfg4_1⟩, ⟨hcg4_2, hfg4_2⟩, ⟨hcg4_3, hfg4_3⟩, ⟨hcg4_4, hfg4_4⟩⟩ := cells5 BKg4.out; obtain ⟨⟨hcg5_0, hfg5_0⟩, ⟨hcg5_1, hfg5_1⟩, ⟨hcg5_2, hfg5_2⟩, ⟨hcg5_3, hfg5_3⟩, ⟨hcg5_4, hfg5_4⟩⟩ := cells5 BKg5.out; obtain ⟨⟨hcg7_0, hfg7_0⟩, ⟨hcg7_1, hfg7_1⟩, ⟨hcg7_2, hfg7_2⟩, ⟨hcg7_3, hfg7_3⟩⟩ := cells4 BKg7.out; clear tok4; have tok5 : True := trivial) | (have _ := tok5; go_at_call 18; (with_reducible refine (twoslotlaw09_much.calls a b c d Am cm sl false _ ?s1 HCM.out HMA.out).mono ?_); (case s1 => exact Kd.C_below HCm.out (by repeat (first | exact HB.out | apply below_alloc | apply pw_below_drewN | apply below_drew1))); rintro e w5 ⟨rfl, hb⟩; (try clear hcg4_0 hfg4_0 hcg4_1 hfg4_1 hcg4_2 hfg4_2 hcg4_3 hfg4_3 hcg4_4 hfg4_4); (try clear hcg5_0 hfg5_0 hcg5_1 hfg5_1 hcg5_2 hfg5_2 hcg5_3 hfg5_3 hcg5_4 hfg5_4); (try clear hcg7_0 hfg7_0 hcg7_1 hfg7_1 hcg7_2 hfg7_2 hcg7_3 hfg7_3); have hs : Below w4.heap.size w4 w5 := below_step (by repeat (first | exact Below.refl _ _ | apply below_alloc | apply pw_below_drewN | apply below_drew1)) hb; have hl : w4.heap.size ≤ _ := below_size (w := w4) (by repeat (first | exact Below.refl _ _ | apply below_alloc | apply pw_below_drewN | apply below_drew1)); have SZ5 := Aside0.mk (show w4.heap.size ≤ w5.heap.size from hs.size); replace BKg4 := bb BKg4 hs; replace BKg5 := bb BKg5 hs; replace BKg7 := bb BKg7 hs; replace HB := hbs HB hs; clear hb hs; (try clear hl); obtain ⟨⟨hcg4_0, hfg4_0⟩, ⟨hcg4_1, hfg4_1⟩, ⟨hcg4_2, hfg4_2⟩, ⟨hcg4_3, hfg4_3⟩, ⟨hcg4_4, hfg4_4⟩⟩ := cells5 BKg4.out; obtain ⟨⟨hcg5_0, hfg5_0⟩, ⟨hcg5_1, hfg5_1⟩, ⟨hcg5_2, hfg5_2⟩, ⟨hcg5_3, hfg5_3⟩, ⟨hcg5_4, hfg5_4⟩⟩ := cells5 BKg5.out; obtain ⟨⟨hcg7_0, hfg7_0⟩, ⟨hcg7_1, hfg7_1⟩, ⟨hcg7_2, hfg7_2⟩, ⟨hcg7_3, hfg7_3⟩⟩ := cells4 BKg7.out; clear tok5; have tok6 : True := trivial) | (have _ := tok6; go_at_call 18; (with_reducible refine (twoslotlaw09_much.calls i1 i2 i3 i4 Bm cb yl false _ ?s1 HCB.out HMB.out).mono ?_); (case s1 => exact Kd.C_below HCb.out (by repeat (first | exact HB.out | apply below_alloc | apply pw_below_drewN | apply below_drew1))); rintro e w6 ⟨rfl, hb⟩; (try clear hcg4_0 hfg4_0 hcg4_1 hfg4_1 hcg4_2 hfg4_2 hcg4_3 hfg4_3 hcg4_4 hfg4_4); (try clear hcg5_0 hfg5_0 hcg5_1 hfg5_1 hcg5_2 hfg5_2 hcg5_3 hfg5_3 hcg5_4 hfg5_4); (try clear hcg7_0 hfg7_0 hcg7_1 hfg7_1 hcg7_2 hfg7_2 hcg7_3 hfg7_3); have hs : Below w5.heap.size w5 w6 := below_step (by repeat (first | exact Below.refl _ _ | apply below_alloc | apply pw_below_drewN | apply below_drew1)) hb; have hl : w5.heap.size ≤ _ := below_size (w := w5) (by repeat (first | exact Below.refl _ _ | apply below_alloc | apply pw_below_drewN | apply below_drew1)); have SZ6 := Aside0.mk (show w5.heap.size ≤ w6.heap.size from hs.size); replace BKg4 := bb BKg4 hs; replace BKg5 := bb BKg5 hs; replace BKg7 := bb BKg7 hs; replace HB := hbs HB hs; clear hb hs; (try clear hl); obtain ⟨⟨hcg4_0, hfg4_0⟩, ⟨hcg4_1, hfg4_1⟩, ⟨hcg4_2, hfg4_2⟩, ⟨hcg4_3, hfg4_3⟩, ⟨hcg4_4, hfg4_4⟩⟩ := cells5 BKg4.out; obtain ⟨⟨hcg5_0, hfg5_0⟩, ⟨hcg5_1, hfg5_1⟩, ⟨hcg5_2, hfg5_2⟩, ⟨hcg5_3, hfg5_3⟩, ⟨hcg5_4, hfg5_4⟩⟩ := cells5 BKg5.out; obtain ⟨⟨hcg7_0, hfg7_0⟩, ⟨hcg7_1, hfg7_1⟩, ⟨hcg7_2, hfg7_2⟩, ⟨hcg7_3, hfg7_3⟩⟩ := cells4 BKg7.out; clear tok6; have tok7 : True := trivial) | (have _ := tok7; go_at_call 20; (with_reducible refine (twoslotref09_Twin.calls k a b c d Am cm sl a b c d sl _ ?s1 HCM.out HTX.out).mono ?_); (case s1 => exact Kd.C_below HCm.out (by repeat (first | exact HB.out | apply below_alloc | apply pw_below_drewN | apply below_drew1))); rintro e w7 ⟨v_x, rfl, ho, hb⟩; (try clear hcg4_0 hfg4_0 hcg4_1 hfg4_1 hcg4_2 hfg4_2 hcg4_3 hfg4_3 hcg4_4 hfg4_4); (try clear hcg5_0 hfg5_0 hcg5_1 hfg5_1 hcg5_2 hfg5_2 hcg5_3 hfg5_3 hcg5_4 hfg5_4); (try clear hcg7_0 hfg7_0 hcg7_1 hfg7_1 hcg7_2 hfg7_2 hcg7_3 hfg7_3); have hs : Below w6.heap.size w6 w7 := below_step (by repeat (first | exact Below.refl _ _ | apply below_alloc | apply pw_below_drewN | apply below_drew1)) hb; have hl : w6.heap.size ≤ _ := below_size (w := w6) (by repeat (first | exact Below.refl _ _ | apply below_alloc | apply pw_below_drewN | apply below_drew1)); have SZ7 := Aside0.mk (show w6.heap.size ≤ w7.heap.size from hs.size); replace BKg4 := bb BKg4 hs; replace BKg5 := bb BKg5 hs; replace BKg7 := bb BKg7 hs; have HOx := Aside0.mk (S_iv ho (below_size (by repeat (first | exact HB.out | apply below_alloc | apply pw_below_drewN | apply below_drew1))) hl); replace HB := hbs HB hs; clear ho; obtain ⟨x_A, x_c, e_⟩ := Kd.S_slice HOx.out; subst e_; clear hb hs; (try clear hl); obtain ⟨⟨hcg4_0, hfg4_0⟩, ⟨hcg4_1, hfg4_1⟩, ⟨hcg4_2, hfg4_2⟩, ⟨hcg4_3, hfg4_3⟩, ⟨hcg4_4, hfg4_4⟩⟩ := cells5 BKg4.out; obtain ⟨⟨hcg5_0, hfg5_0⟩, ⟨hcg5_1, hfg5_1⟩, ⟨hcg5_2, hfg5_2⟩, ⟨hcg5_3, hfg5_3⟩, ⟨hcg5_4, hfg5_4⟩⟩ := cells5 BKg5.out; obtain ⟨⟨hcg7_0, hfg7_0⟩, ⟨hcg7_1, hfg7_1⟩, ⟨hcg7_2, hfg7_2⟩, ⟨hcg7_3, hfg7_3⟩⟩ := cells4 BKg7.out; clear tok7; have tok8 : True := trivial) | (have _ := tok8; (with_reducible refine gate_dst (N := 10) rfl ?_); refine box_event ?hg (N := 10) ?hd (cs := #[.int .i64 0, .int .i64 0, .int .i64 0, .int .i64 0, .slice none 0 0]) (t := 27) ?hr ?_; (case hd => rfl); (case hg => rfl); (case hr => first | (go_simp; done) | (go_simp; rfl)); intro g10 hg w8 hbox hb; have hs : Below w7.heap.size w7 w8 := below_step (by repeat (first | exact Below.refl _ _ | apply below_alloc | apply pw_below_drewN | apply below_drew1)) hb; have SZ8 := Aside0.mk (show w7.heap.size ≤ g10 ∧ g10 < w8.heap.size from ⟨by rw [hg]; exact (below_size (by repeat (first | exact Below.refl _ _ | apply below_alloc | apply pw_below_drewN | apply below_drew1))), blk_lt hbox⟩); (try clear hcg4_0 hfg4_0 hcg4_1 hfg4_1 hcg4_2 hfg4_2 hcg4_3 hfg4_3 hcg4_4 hfg4_4); (try clear hcg5_0 hfg5_0 hcg5_1 hfg5_1 hcg5_2 hfg5_2 hcg5_3 hfg5_3 hcg5_4 hfg5_4); (try clear hcg7_0 hfg7_0 hcg7_1 hfg7_1 hcg7_2 hfg7_2 hcg7_3 hfg7_3); replace BKg4 := bb BKg4 hs; replace BKg5 := bb BKg5 hs; replace BKg7 := bb BKg7 hs; replace HOx := sb HOx hs; replace HB := hbs HB hs; have q0_ := SZ1.out; have q1_ := SZ2.out; have q2_ := SZ3.out; have q3_ := SZ4.out; have q4_ := SZ5.out; have q5_ := SZ6.out; have q6_ := SZ7.out; have q7_ := SZ8.out; have hneg4_g10 : g4 ≠ g10 := (by omega); have hneg10_g4 := hneg4_g10.symm; have hneg5_g10 : g5 ≠ g10 := (by omega); have hneg10_g5 := hneg5_g10.symm; have hneg7_g10 : g7 ≠ g10 := (by omega); have hneg10_g7 := hneg7_g10.symm; clear q0_ q1_ q2_ q3_ q4_ q5_ q6_ q7_; have BKg10 := Aside0.mk hbox; clear hb hbox hg hs; obtain ⟨⟨hcg4_0, hfg4_0⟩, ⟨hcg4_1, hfg4_1⟩, ⟨hcg4_2, hfg4_2⟩, ⟨hcg4_3, hfg4_3⟩, ⟨hcg4_4, hfg4_4⟩⟩ := cells5 BKg4.out; obtain ⟨⟨hcg5_0, hfg5_0⟩, ⟨hcg5_1, hfg5_1⟩, ⟨hcg5_2, hfg5_2⟩, ⟨hcg5_3, hfg5_3⟩, ⟨hcg5_4, hfg5_4⟩⟩ := cells5 BKg5.out; obtain ⟨⟨hcg7_0, hfg7_0⟩, ⟨hcg7_1, hfg7_1⟩, ⟨hcg7_2, hfg7_2⟩, ⟨hcg7_3, hfg7_3⟩⟩ := cells4 BKg7.out; obtain ⟨⟨hcg10_0, hfg10_0⟩, ⟨hcg10_1, hfg10_1⟩, ⟨hcg10_2, hfg10_2⟩, ⟨hcg10_3, hfg10_3⟩, ⟨hcg10_4, hfg10_4⟩⟩ := cells5 BKg10.out; clear tok8))
  (try clear hcg4_0 hfg4_0 hcg4_1 hfg4_1 hcg4_2 hfg4_2 hcg4_3 hfg4_3 hcg4_4 hfg4_4)
  (try clear hcg5_0 hfg5_0 hcg5_1 hfg5_1 hcg5_2 hfg5_2 hcg5_3 hfg5_3 hcg5_4 hfg5_4)
  (try clear hcg7_0 hfg7_0 hcg7_1 hfg7_1 hcg7_2 hfg7_2 hcg7_3 hfg7_3)
  (try clear hcg10_0 hfg10_0 hcg10_1 hfg10_1 hcg10_2 hfg10_2 hcg10_3 hfg10_3 hcg10_4 hfg10_4)
  have q0_ := SZ1.out
  have q1_ := SZ2.out
  have q2_ := SZ3.out
  have q3_ := SZ4.out
  have q4_ := SZ5.out
  have q5_ := SZ6.out
  have q6_ := SZ7.out
  have q7_ := SZ8.out
  generalize hw : (((((w8.setCell ⟨g10, 0, none⟩ (.int .i64 a)).setCell ⟨g10, 1, none⟩ (.int .i64 b)).setCell ⟨g10, 2, none⟩ (.int .i64 c)).setCell ⟨g10, 3, none⟩ (.int .i64 d)).setCell ⟨g10, 4, none⟩ (.slice x_A sl.length x_c)) = w9
  have hs : Kept w8 w9 (Iv g10 (g10 + 1)) := by rw [← hw]; exact kput (kput (kput (kput (kput (Kept.refl _ _)))))
  replace BKg4 := kb BKg4 hs (Iv_out (by omega))
  replace BKg5 := kb BKg5 hs (Iv_out (by omega))
  replace BKg7 := kb BKg7 hs (Iv_out (by omega))
  replace HOx := sk HOx hs (Iv_apart (by omega))
  replace BKg10 : Aside0 (w9.heap[g10]? = some (.cells #[.int .i64 a, .int .i64 b, .int .i64 c, .int .i64 d, .slice x_A sl.length x_c] 27 (0, 0))) := ⟨by rw [← hw]; exact blk_put (blk_put (blk_put (blk_put (blk_put (BKg10.out) 0 _ rfl) 1 _ rfl) 2 _ rfl) 3 _ rfl) 4 _ rfl⟩
  have hq : w.heap.size ≤ g10 := (by omega)
  replace HB : Aside0 (Below w.heap.size w w9) := ⟨by rw [← hw]; exact below_set (below_set (below_set (below_set (below_set (HB.out) hq) hq) hq) hq) hq⟩
  have SZ9 := Aside0.mk (show w8.heap.size ≤ w9.heap.size from hs.1)
  clear q0_ q1_ q2_ q3_ q4_ q5_ q6_ q7_
  clear hs hw hq
  obtain ⟨⟨hcg4_0, hfg4_0⟩, ⟨hcg4_1, hfg4_1⟩, ⟨hcg4_2, hfg4_2⟩, ⟨hcg4_3, hfg4_3⟩, ⟨hcg4_4, hfg4_4⟩⟩ := cells5 BKg4.out
  obtain ⟨⟨hcg5_0, hfg5_0⟩, ⟨hcg5_1, hfg5_1⟩, ⟨hcg5_2, hfg5_2⟩, ⟨hcg5_3, hfg5_3⟩, ⟨hcg5_4, hfg5_4⟩⟩ := cells5 BKg5.out
  obtain ⟨⟨hcg7_0, hfg7_0⟩, ⟨hcg7_1, hfg7_1⟩, ⟨hcg7_2, hfg7_2⟩, ⟨hcg7_3, hfg7_3⟩⟩ := cells4 BKg7.out
  obtain ⟨⟨hcg10_0, hfg10_0⟩, ⟨hcg10_1, hfg10_1⟩, ⟨hcg10_2, hfg10_2⟩, ⟨hcg10_3, hfg10_3⟩, ⟨hcg10_4, hfg10_4⟩⟩ := cells5 BKg10.out
  (try clear hcg4_0 hfg4_0 hcg4_1 hfg4_1 hcg4_2 hfg4_2 hcg4_3 hfg4_3 hcg4_4 hfg4_4)
  (try clear hcg5_0 hfg5_0 hcg5_1 hfg5_1 hcg5_2 hfg5_2 hcg5_3 hfg5_3 hcg5_4 hfg5_4)
  (try clear hcg7_0 hfg7_0 hcg7_1 hfg7_1 hcg7_2 hfg7_2 hcg7_3 hfg7_3)
  (try clear hcg10_0 hfg10_0 hcg10_1 hfg10_1 hcg10_2 hfg10_2 hcg10_3 hfg10_3 hcg10_4 hfg10_4)
  obtain ⟨⟨hcg5_0, hfg5_0⟩, ⟨hcg5_1, hfg5_1⟩, ⟨hcg5_2, hfg5_2⟩, ⟨hcg5_3, hfg5_3⟩, ⟨hcg5_4, hfg5_4⟩⟩ := cells5 BKg5.out
  obtain ⟨⟨hcg10_0, hfg10_0⟩, ⟨hcg10_1, hfg10_1⟩, ⟨hcg10_2, hfg10_2⟩, ⟨hcg10_3, hfg10_3⟩, ⟨hcg10_4, hfg10_4⟩⟩ := cells5 BKg10.out
  have tok9 : True := trivial
  go_wp2_with (first | (have _ := tok9; go_at_call 20; (with_reducible refine (twoslotref09_Twin.calls k i1 i2 i3 i4 Bm cb yl i1 i2 i3 i4 yl _ ?s1 HCB.out HTY.out).mono ?_); (case s1 => exact Kd.C_below HCb.out (by repeat (first | exact HB.out | apply below_alloc | apply pw_below_drewN | apply below_drew1))); rintro e w10 ⟨v_y, rfl, ho, hb⟩; (try clear hcg5_0 hfg5_0 hcg5_1 hfg5_1 hcg5_2 hfg5_2 hcg5_3 hfg5_3 hcg5_4 hfg5_4); (try clear hcg10_0 hfg10_0 hcg10_1 hfg10_1 hcg10_2 hfg10_2 hcg10_3 hfg10_3 hcg10_4 hfg10_4); have hs : Below w9.heap.size w9 w10 := below_step (by repeat (first | exact Below.refl _ _ | apply below_alloc | apply pw_below_drewN | apply below_drew1)) hb; have hl : w9.heap.size ≤ _ := below_size (w := w9) (by repeat (first | exact Below.refl _ _ | apply below_alloc | apply pw_below_drewN | apply below_drew1)); have SZ10 := Aside0.mk (show w9.heap.size ≤ w10.heap.size from hs.size); replace BKg4 := bb BKg4 hs; replace BKg5 := bb BKg5 hs; replace BKg7 := bb BKg7 hs; replace HOx := sb HOx hs; replace BKg10 := bb BKg10 hs; have HOy := Aside0.mk (S_iv ho (below_size (by repeat (first | exact HB.out | apply below_alloc | apply pw_below_drewN | apply below_drew1))) hl); replace HB := hbs HB hs; clear ho; obtain ⟨y_A, y_c, e_⟩ := Kd.S_slice HOy.out; subst e_; clear hb hs; (try clear hl); obtain ⟨⟨hcg5_0, hfg5_0⟩, ⟨hcg5_1, hfg5_1⟩, ⟨hcg5_2, hfg5_2⟩, ⟨hcg5_3, hfg5_3⟩, ⟨hcg5_4, hfg5_4⟩⟩ := cells5 BKg5.out; obtain ⟨⟨hcg10_0, hfg10_0⟩, ⟨hcg10_1, hfg10_1⟩, ⟨hcg10_2, hfg10_2⟩, ⟨hcg10_3, hfg10_3⟩, ⟨hcg10_4, hfg10_4⟩⟩ := cells5 BKg10.out; clear tok9; have tok10 : True := trivial) | (have _ := tok10; (with_reducible refine gate_dst (N := 11) rfl ?_); refine box_event ?hg (N := 11) ?hd (cs := #[.int .i64 0, .int .i64 0, .int .i64 0, .int .i64 0, .slice none 0 0]) (t := 27) ?hr ?_; (case hd => rfl); (case hg => rfl); (case hr => first | (go_simp; done) | (go_simp; rfl)); intro g11 hg w11 hbox hb; have hs : Below w10.heap.size w10 w11 := below_step (by repeat (first | exact Below.refl _ _ | apply below_alloc | apply pw_below_drewN | apply below_drew1)) hb; have SZ11 := Aside0.mk (show w10.heap.size ≤ g11 ∧ g11 < w11.heap.size from ⟨by rw [hg]; exact (below_size (by repeat (first | exact Below.refl _ _ | apply below_alloc | apply pw_below_drewN | apply below_drew1))), blk_lt hbox⟩); (try clear hcg5_0 hfg5_0 hcg5_1 hfg5_1 hcg5_2 hfg5_2 hcg5_3 hfg5_3 hcg5_4 hfg5_4); (try clear hcg10_0 hfg10_0 hcg10_1 hfg10_1 hcg10_2 hfg10_2 hcg10_3 hfg10_3 hcg10_4 hfg10_4); replace BKg4 := bb BKg4 hs; replace BKg5 := bb BKg5 hs; replace BKg7 := bb BKg7 hs; replace HOx := sb HOx hs; replace BKg10 := bb BKg10 hs; replace HOy := sb HOy hs; replace HB := hbs HB hs; have q0_ := SZ1.out; have q1_ := SZ2.out; have q2_ := SZ3.out; have q3_ := SZ4.out; have q4_ := SZ5.out; have q5_ := SZ6.out; have q6_ := SZ7.out; have q7_ := SZ8.out; have q8_ := SZ9.out; have q9_ := SZ10.out; have q10_ := SZ11.out; have hneg4_g11 : g4 ≠ g11 := (by omega); have hneg11_g4 := hneg4_g11.symm; have hneg5_g11 : g5 ≠ g11 := (by omega); have hneg11_g5 := hneg5_g11.symm; have hneg7_g11 : g7 ≠ g11 := (by omega); have hneg11_g7 := hneg7_g11.symm; have hneg10_g11 : g10 ≠ g11 := (by omega); have hneg11_g10 := hneg10_g11.symm; clear q0_ q1_ q2_ q3_ q4_ q5_ q6_ q7_ q8_ q9_ q10_; have BKg11 := Aside0.mk hbox; clear hb hbox hg hs; obtain ⟨⟨hcg5_0, hfg5_0⟩, ⟨hcg5_1, hfg5_1⟩, ⟨hcg5_2, hfg5_2⟩, ⟨hcg5_3, hfg5_3⟩, ⟨hcg5_4, hfg5_4⟩⟩ := cells5 BKg5.out; obtain ⟨⟨hcg10_0, hfg10_0⟩, ⟨hcg10_1, hfg10_1⟩, ⟨hcg10_2, hfg10_2⟩, ⟨hcg10_3, hfg10_3⟩, ⟨hcg10_4, hfg10_4⟩⟩ := cells5 BKg10.out; obtain ⟨⟨hcg11_0, hfg11_0⟩, ⟨hcg11_1, hfg11_1⟩, ⟨hcg11_2, hfg11_2⟩, ⟨hcg11_3, hfg11_3⟩, ⟨hcg11_4, hfg11_4⟩⟩ := cells5 BKg11.out; clear tok10))
  (try clear hcg5_0 hfg5_0 hcg5_1 hfg5_1 hcg5_2 hfg5_2 hcg5_3 hfg5_3 hcg5_4 hfg5_4)
  (try clear hcg10_0 hfg10_0 hcg10_1 hfg10_1 hcg10_2 hfg10_2 hcg10_3 hfg10_3 hcg10_4 hfg10_4)
  (try clear hcg11_0 hfg11_0 hcg11_1 hfg11_1 hcg11_2 hfg11_2 hcg11_3 hfg11_3 hcg11_4 hfg11_4)
  have q0_ := SZ1.out
  have q1_ := SZ2.out
  have q2_ := SZ3.out
  have q3_ := SZ4.out
  have q4_ := SZ5.out
  have q5_ := SZ6.out
  have q6_ := SZ7.out
  have q7_ := SZ8.out
  have q8_ := SZ9.out
  have q9_ := SZ10.out
  have q10_ := SZ11.out
  generalize hw : (((((w11.setCell ⟨g11, 0, none⟩ (.int .i64 i1)).setCell ⟨g11, 1, none⟩ (.int .i64 i2)).setCell ⟨g11, 2, none⟩ (.int .i64 i3)).setCell ⟨g11, 3, none⟩ (.int .i64 i4)).setCell ⟨g11, 4, none⟩ (.slice y_A yl.length y_c)) = w12
  have hs : Kept w11 w12 (Iv g11 (g11 + 1)) := by rw [← hw]; exact kput (kput (kput (kput (kput (Kept.refl _ _)))))
  replace BKg4 := kb BKg4 hs (Iv_out (by omega))
  replace BKg5 := kb BKg5 hs (Iv_out (by omega))
  replace BKg7 := kb BKg7 hs (Iv_out (by omega))
  replace HOx := sk HOx hs (Iv_apart (by omega))
  replace BKg10 := kb BKg10 hs (Iv_out (by omega))
  replace HOy := sk HOy hs (Iv_apart (by omega))
  replace BKg11 : Aside0 (w12.heap[g11]? = some (.cells #[.int .i64 i1, .int .i64 i2, .int .i64 i3, .int .i64 i4, .slice y_A yl.length y_c] 27 (0, 0))) := ⟨by rw [← hw]; exact blk_put (blk_put (blk_put (blk_put (blk_put (BKg11.out) 0 _ rfl) 1 _ rfl) 2 _ rfl) 3 _ rfl) 4 _ rfl⟩
  have hq : w.heap.size ≤ g11 := (by omega)
  replace HB : Aside0 (Below w.heap.size w w12) := ⟨by rw [← hw]; exact below_set (below_set (below_set (below_set (below_set (HB.out) hq) hq) hq) hq) hq⟩
  have SZ12 := Aside0.mk (show w11.heap.size ≤ w12.heap.size from hs.1)
  clear q0_ q1_ q2_ q3_ q4_ q5_ q6_ q7_ q8_ q9_ q10_
  clear hs hw hq
  obtain ⟨⟨hcg5_0, hfg5_0⟩, ⟨hcg5_1, hfg5_1⟩, ⟨hcg5_2, hfg5_2⟩, ⟨hcg5_3, hfg5_3⟩, ⟨hcg5_4, hfg5_4⟩⟩ := cells5 BKg5.out
  obtain ⟨⟨hcg10_0, hfg10_0⟩, ⟨hcg10_1, hfg10_1⟩, ⟨hcg10_2, hfg10_2⟩, ⟨hcg10_3, hfg10_3⟩, ⟨hcg10_4, hfg10_4⟩⟩ := cells5 BKg10.out
  obtain ⟨⟨hcg11_0, hfg11_0⟩, ⟨hcg11_1, hfg11_1⟩, ⟨hcg11_2, hfg11_2⟩, ⟨hcg11_3, hfg11_3⟩, ⟨hcg11_4, hfg11_4⟩⟩ := cells5 BKg11.out
  (try clear hcg5_0 hfg5_0 hcg5_1 hfg5_1 hcg5_2 hfg5_2 hcg5_3 hfg5_3 hcg5_4 hfg5_4)
  (try clear hcg10_0 hfg10_0 hcg10_1 hfg10_1 hcg10_2 hfg10_2 hcg10_3 hfg10_3 hcg10_4 hfg10_4)
  (try clear hcg11_0 hfg11_0 hcg11_1 hfg11_1 hcg11_2 hfg11_2 hcg11_3 hfg11_3 hcg11_4 hfg11_4)
  obtain ⟨⟨hcg4_0, hfg4_0⟩, ⟨hcg4_1, hfg4_1⟩, ⟨hcg4_2, hfg4_2⟩, ⟨hcg4_3, hfg4_3⟩, ⟨hcg4_4, hfg4_4⟩⟩ := cells5 BKg4.out
  obtain ⟨⟨hcg7_0, hfg7_0⟩, ⟨hcg7_1, hfg7_1⟩, ⟨hcg7_2, hfg7_2⟩, ⟨hcg7_3, hfg7_3⟩⟩ := cells4 BKg7.out
  obtain ⟨⟨hcg10_0, hfg10_0⟩, ⟨hcg10_1, hfg10_1⟩, ⟨hcg10_2, hfg10_2⟩, ⟨hcg10_3, hfg10_3⟩, ⟨hcg10_4, hfg10_4⟩⟩ := cells5 BKg10.out
  obtain ⟨⟨hcg11_0, hfg11_0⟩, ⟨hcg11_1, hfg11_1⟩, ⟨hcg11_2, hfg11_2⟩, ⟨hcg11_3, hfg11_3⟩, ⟨hcg11_4, hfg11_4⟩⟩ := cells5 BKg11.out
  have tok11 : True := trivial
  go_wp2_with (first | (have _ := tok11; go_at_call 15; (with_reducible refine (image_Row.callsS k a b c d x_A x_c sl n rs e1 _ ?s1 (Kd.S_reads' HOx.out).2.1 HRO.out).mono ?_); (case s1 => exact (Kd.S_reads' (Kd.S_below HOx.out (by repeat (first | exact Below.refl _ _ | apply below_alloc | apply pw_below_drewN | apply below_drew1)))).2.2); rintro e w13 ⟨v_r, rfl, ho, hb⟩; (try clear hcg4_0 hfg4_0 hcg4_1 hfg4_1 hcg4_2 hfg4_2 hcg4_3 hfg4_3 hcg4_4 hfg4_4); (try clear hcg7_0 hfg7_0 hcg7_1 hfg7_1 hcg7_2 hfg7_2 hcg7_3 hfg7_3); (try clear hcg10_0 hfg10_0 hcg10_1 hfg10_1 hcg10_2 hfg10_2 hcg10_3 hfg10_3 hcg10_4 hfg10_4); (try clear hcg11_0 hfg11_0 hcg11_1 hfg11_1 hcg11_2 hfg11_2 hcg11_3 hfg11_3 hcg11_4 hfg11_4); have hs : Below w12.heap.size w12 w13 := below_step (by repeat (first | exact Below.refl _ _ | apply below_alloc | apply pw_below_drewN | apply below_drew1)) hb; have hl : w12.heap.size ≤ _ := below_size (w := w12) (by repeat (first | exact Below.refl _ _ | apply below_alloc | apply pw_below_drewN | apply below_drew1)); have SZ13 := Aside0.mk (show w12.heap.size ≤ w13.heap.size from hs.size); replace BKg4 := bb BKg4 hs; replace BKg5 := bb BKg5 hs; replace BKg7 := bb BKg7 hs; replace HOx := sb HOx hs; replace BKg10 := bb BKg10 hs; replace HOy := sb HOy hs; replace BKg11 := bb BKg11 hs; have HOr := Aside0.mk (S_iv ho (below_size (by repeat (first | exact HB.out | apply below_alloc | apply pw_below_drewN | apply below_drew1))) hl); replace HB := hbs HB hs; clear ho; obtain ⟨r_A, r_c, e_⟩ := Kd.S_slice HOr.out; subst e_; clear hb hs; (try clear hl); obtain ⟨⟨hcg4_0, hfg4_0⟩, ⟨hcg4_1, hfg4_1⟩, ⟨hcg4_2, hfg4_2⟩, ⟨hcg4_3, hfg4_3⟩, ⟨hcg4_4, hfg4_4⟩⟩ := cells5 BKg4.out; obtain ⟨⟨hcg7_0, hfg7_0⟩, ⟨hcg7_1, hfg7_1⟩, ⟨hcg7_2, hfg7_2⟩, ⟨hcg7_3, hfg7_3⟩⟩ := cells4 BKg7.out; obtain ⟨⟨hcg10_0, hfg10_0⟩, ⟨hcg10_1, hfg10_1⟩, ⟨hcg10_2, hfg10_2⟩, ⟨hcg10_3, hfg10_3⟩, ⟨hcg10_4, hfg10_4⟩⟩ := cells5 BKg10.out; obtain ⟨⟨hcg11_0, hfg11_0⟩, ⟨hcg11_1, hfg11_1⟩, ⟨hcg11_2, hfg11_2⟩, ⟨hcg11_3, hfg11_3⟩, ⟨hcg11_4, hfg11_4⟩⟩ := cells5 BKg11.out; clear tok11; have tok12 : True := trivial) | (have _ := tok12; go_at_call 14; (with_reducible refine (image_Diff.calls k a b c d x_A x_c sl i1 i2 i3 i4 y_A y_c yl ds e2 _ ?s1 (Kd.S_reads' HOx.out).2.1 ?s2 (Kd.S_reads' HOy.out).2.1 HDI.out).mono ?_); (case s1 => exact (Kd.S_reads' (Kd.S_below HOx.out (by repeat (first | exact Below.refl _ _ | apply below_alloc | apply pw_below_drewN | apply below_drew1)))).2.2); (case s2 => exact (Kd.S_reads' (Kd.S_below HOy.out (by repeat (first | exact Below.refl _ _ | apply below_alloc | apply pw_below_drewN | apply below_drew1)))).2.2); rintro e w14 ⟨v_d, rfl, ho, hb⟩; (try clear hcg4_0 hfg4_0 hcg4_1 hfg4_1 hcg4_2 hfg4_2 hcg4_3 hfg4_3 hcg4_4 hfg4_4); (try clear hcg7_0 hfg7_0 hcg7_1 hfg7_1 hcg7_2 hfg7_2 hcg7_3 hfg7_3); (try clear hcg10_0 hfg10_0 hcg10_1 hfg10_1 hcg10_2 hfg10_2 hcg10_3 hfg10_3 hcg10_4 hfg10_4); (try clear hcg11_0 hfg11_0 hcg11_1 hfg11_1 hcg11_2 hfg11_2 hcg11_3 hfg11_3 hcg11_4 hfg11_4); have hs : Below w13.heap.size w13 w14 := below_step (by repeat (first | exact Below.refl _ _ | apply below_alloc | apply pw_below_drewN | apply below_drew1)) hb; have hl : w13.heap.size ≤ _ := below_size (w := w13) (by repeat (first | exact Below.refl _ _ | apply below_alloc | apply pw_below_drewN | apply below_drew1)); have SZ14 := Aside0.mk (show w13.heap.size ≤ w14.heap.size from hs.size); replace BKg4 := bb BKg4 hs; replace BKg5 := bb BKg5 hs; replace BKg7 := bb BKg7 hs; replace HOx := sb HOx hs; replace BKg10 := bb BKg10 hs; replace HOy := sb HOy hs; replace BKg11 := bb BKg11 hs; replace HOr := sb HOr hs; have HOd := Aside0.mk (S_iv ho (below_size (by repeat (first | exact HB.out | apply below_alloc | apply pw_below_drewN | apply below_drew1))) hl); replace HB := hbs HB hs; clear ho; obtain ⟨d_A, d_c, e_⟩ := Kd.S_slice HOd.out; subst e_; clear hb hs; (try clear hl); obtain ⟨⟨hcg4_0, hfg4_0⟩, ⟨hcg4_1, hfg4_1⟩, ⟨hcg4_2, hfg4_2⟩, ⟨hcg4_3, hfg4_3⟩, ⟨hcg4_4, hfg4_4⟩⟩ := cells5 BKg4.out; obtain ⟨⟨hcg7_0, hfg7_0⟩, ⟨hcg7_1, hfg7_1⟩, ⟨hcg7_2, hfg7_2⟩, ⟨hcg7_3, hfg7_3⟩⟩ := cells4 BKg7.out; obtain ⟨⟨hcg10_0, hfg10_0⟩, ⟨hcg10_1, hfg10_1⟩, ⟨hcg10_2, hfg10_2⟩, ⟨hcg10_3, hfg10_3⟩, ⟨hcg10_4, hfg10_4⟩⟩ := cells5 BKg10.out; obtain ⟨⟨hcg11_0, hfg11_0⟩, ⟨hcg11_1, hfg11_1⟩, ⟨hcg11_2, hfg11_2⟩, ⟨hcg11_3, hfg11_3⟩, ⟨hcg11_4, hfg11_4⟩⟩ := cells5 BKg11.out; clear tok12; have tok13 : True := trivial) | (have _ := tok13; go_at_call 10; (with_reducible refine (image_Blank.calls p0 p1 p2 p3 q0 q1 q2 q3 bs e3 _ HBL.out).mono ?_); rintro e w15 ⟨v_k, rfl, ho, hb⟩; (try clear hcg4_0 hfg4_0 hcg4_1 hfg4_1 hcg4_2 hfg4_2 hcg4_3 hfg4_3 hcg4_4 hfg4_4); (try clear hcg7_0 hfg7_0 hcg7_1 hfg7_1 hcg7_2 hfg7_2 hcg7_3 hfg7_3); (try clear hcg10_0 hfg10_0 hcg10_1 hfg10_1 hcg10_2 hfg10_2 hcg10_3 hfg10_3 hcg10_4 hfg10_4); (try clear hcg11_0 hfg11_0 hcg11_1 hfg11_1 hcg11_2 hfg11_2 hcg11_3 hfg11_3 hcg11_4 hfg11_4); have hs : Below w14.heap.size w14 w15 := below_step (by repeat (first | exact Below.refl _ _ | apply below_alloc | apply pw_below_drewN | apply below_drew1)) hb; have hl : w14.heap.size ≤ _ := below_size (w := w14) (by repeat (first | exact Below.refl _ _ | apply below_alloc | apply pw_below_drewN | apply below_drew1)); have SZ15 := Aside0.mk (show w14.heap.size ≤ w15.heap.size from hs.size); replace BKg4 := bb BKg4 hs; replace BKg5 := bb BKg5 hs; replace BKg7 := bb BKg7 hs; replace HOx := sb HOx hs; replace BKg10 := bb BKg10 hs; replace HOy := sb HOy hs; replace BKg11 := bb BKg11 hs; replace HOr := sb HOr hs; replace HOd := sb HOd hs; have HOk := Aside0.mk (S_iv ho (below_size (by repeat (first | exact HB.out | apply below_alloc | apply pw_below_drewN | apply below_drew1))) hl); replace HB := hbs HB hs; clear ho; obtain ⟨k_A, k_c, e_⟩ := Kd.S_slice HOk.out; subst e_; clear hb hs; (try clear hl); obtain ⟨⟨hcg4_0, hfg4_0⟩, ⟨hcg4_1, hfg4_1⟩, ⟨hcg4_2, hfg4_2⟩, ⟨hcg4_3, hfg4_3⟩, ⟨hcg4_4, hfg4_4⟩⟩ := cells5 BKg4.out; obtain ⟨⟨hcg7_0, hfg7_0⟩, ⟨hcg7_1, hfg7_1⟩, ⟨hcg7_2, hfg7_2⟩, ⟨hcg7_3, hfg7_3⟩⟩ := cells4 BKg7.out; obtain ⟨⟨hcg10_0, hfg10_0⟩, ⟨hcg10_1, hfg10_1⟩, ⟨hcg10_2, hfg10_2⟩, ⟨hcg10_3, hfg10_3⟩, ⟨hcg10_4, hfg10_4⟩⟩ := cells5 BKg10.out; obtain ⟨⟨hcg11_0, hfg11_0⟩, ⟨hcg11_1, hfg11_1⟩, ⟨hcg11_2, hfg11_2⟩, ⟨hcg11_3, hfg11_3⟩, ⟨hcg11_4, hfg11_4⟩⟩ := cells5 BKg11.out; clear tok13; have tok14 : True := trivial) | (have _ := tok14; (with_reducible refine gate_dst (N := 16) rfl ?_); refine box_event ?hg (N := 16) ?hd (cs := #[.int .i64 0, .int .i64 0, .int .i64 0, .int .i64 0, .slice none 0 0]) (t := 27) ?hr ?_; (case hd => rfl); (case hg => rfl); (case hr => first | (go_simp; done) | (go_simp; rfl)); intro g16 hg w16 hbox hb; have hs : Below w15.heap.size w15 w16 := below_step (by repeat (first | exact Below.refl _ _ | apply below_alloc | apply pw_below_drewN | apply below_drew1)) hb; have SZ16 := Aside0.mk (show w15.heap.size ≤ g16 ∧ g16 < w16.heap.size from ⟨by rw [hg]; exact (below_size (by repeat (first | exact Below.refl _ _ | apply below_alloc | apply pw_below_drewN | apply below_drew1))), blk_lt hbox⟩); (try clear hcg4_0 hfg4_0 hcg4_1 hfg4_1 hcg4_2 hfg4_2 hcg4_3 hfg4_3 hcg4_4 hfg4_4); (try clear hcg7_0 hfg7_0 hcg7_1 hfg7_1 hcg7_2 hfg7_2 hcg7_3 hfg7_3); (try clear hcg10_0 hfg10_0 hcg10_1 hfg10_1 hcg10_2 hfg10_2 hcg10_3 hfg10_3 hcg10_4 hfg10_4); (try clear hcg11_0 hfg11_0 hcg11_1 hfg11_1 hcg11_2 hfg11_2 hcg11_3 hfg11_3 hcg11_4 hfg11_4); replace BKg4 := bb BKg4 hs; replace BKg5 := bb BKg5 hs; replace BKg7 := bb BKg7 hs; replace HOx := sb HOx hs; replace BKg10 := bb BKg10 hs; replace HOy := sb HOy hs; replace BKg11 := bb BKg11 hs; replace HOr := sb HOr hs; replace HOd := sb HOd hs; replace HOk := sb HOk hs; replace HB := hbs HB hs; have q0_ := SZ1.out; have q1_ := SZ2.out; have q2_ := SZ3.out; have q3_ := SZ4.out; have q4_ := SZ5.out; have q5_ := SZ6.out; have q6_ := SZ7.out; have q7_ := SZ8.out; have q8_ := SZ9.out; have q9_ := SZ10.out; have q10_ := SZ11.out; have q11_ := SZ12.out; have q12_ := SZ13.out; have q13_ := SZ14.out; have q14_ := SZ15.out; have q15_ := SZ16.out; have hneg4_g16 : g4 ≠ g16 := (by omega); have hneg16_g4 := hneg4_g16.symm; have hneg5_g16 : g5 ≠ g16 := (by omega); have hneg16_g5 := hneg5_g16.symm; have hneg7_g16 : g7 ≠ g16 := (by omega); have hneg16_g7 := hneg7_g16.symm; have hneg10_g16 : g10 ≠ g16 := (by omega); have hneg16_g10 := hneg10_g16.symm; have hneg11_g16 : g11 ≠ g16 := (by omega); have hneg16_g11 := hneg11_g16.symm; clear q0_ q1_ q2_ q3_ q4_ q5_ q6_ q7_ q8_ q9_ q10_ q11_ q12_ q13_ q14_ q15_; have BKg16 := Aside0.mk hbox; clear hb hbox hg hs; obtain ⟨⟨hcg4_0, hfg4_0⟩, ⟨hcg4_1, hfg4_1⟩, ⟨hcg4_2, hfg4_2⟩, ⟨hcg4_3, hfg4_3⟩, ⟨hcg4_4, hfg4_4⟩⟩ := cells5 BKg4.out; obtain ⟨⟨hcg7_0, hfg7_0⟩, ⟨hcg7_1, hfg7_1⟩, ⟨hcg7_2, hfg7_2⟩, ⟨hcg7_3, hfg7_3⟩⟩ := cells4 BKg7.out; obtain ⟨⟨hcg10_0, hfg10_0⟩, ⟨hcg10_1, hfg10_1⟩, ⟨hcg10_2, hfg10_2⟩, ⟨hcg10_3, hfg10_3⟩, ⟨hcg10_4, hfg10_4⟩⟩ := cells5 BKg10.out; obtain ⟨⟨hcg11_0, hfg11_0⟩, ⟨hcg11_1, hfg11_1⟩, ⟨hcg11_2, hfg11_2⟩, ⟨hcg11_3, hfg11_3⟩, ⟨hcg11_4, hfg11_4⟩⟩ := cells5 BKg11.out; obtain ⟨⟨hcg16_0, hfg16_0⟩, ⟨hcg16_1, hfg16_1⟩, ⟨hcg16_2, hfg16_2⟩, ⟨hcg16_3, hfg16_3⟩, ⟨hcg16_4, hfg16_4⟩⟩ := cells5 BKg16.out; clear tok14))
  (try clear hcg4_0 hfg4_0 hcg4_1 hfg4_1 hcg4_2 hfg4_2 hcg4_3 hfg4_3 hcg4_4 hfg4_4)
  (try clear hcg7_0 hfg7_0 hcg7_1 hfg7_1 hcg7_2 hfg7_2 hcg7_3 hfg7_3)
  (try clear hcg10_0 hfg10_0 hcg10_1 hfg10_1 hcg10_2 hfg10_2 hcg10_3 hfg10_3 hcg10_4 hfg10_4)
  (try clear hcg11_0 hfg11_0 hcg11_1 hfg11_1 hcg11_2 hfg11_2 hcg11_3 hfg11_3 hcg11_4 hfg11_4)
  (try clear hcg16_0 hfg16_0 hcg16_1 hfg16_1 hcg16_2 hfg16_2 hcg16_3 hfg16_3 hcg16_4 hfg16_4)
  have q0_ := SZ1.out
  have q1_ := SZ2.out
  have q2_ := SZ3.out
  have q3_ := SZ4.out
  have q4_ := SZ5.out
  have q5_ := SZ6.out
  have q6_ := SZ7.out
  have q7_ := SZ8.out
  have q8_ := SZ9.out
  have q9_ := SZ10.out
  have q10_ := SZ11.out
  have q11_ := SZ12.out
  have q12_ := SZ13.out
  have q13_ := SZ14.out
  have q14_ := SZ15.out
  have q15_ := SZ16.out
  generalize hw : (((((w16.setCell ⟨g16, 0, none⟩ (.int .i64 q0)).setCell ⟨g16, 1, none⟩ (.int .i64 q1)).setCell ⟨g16, 2, none⟩ (.int .i64 q2)).setCell ⟨g16, 3, none⟩ (.int .i64 q3)).setCell ⟨g16, 4, none⟩ (.slice k_A bs.length k_c)) = w17
  have hs : Kept w16 w17 (Iv g16 (g16 + 1)) := by rw [← hw]; exact kput (kput (kput (kput (kput (Kept.refl _ _)))))
  replace BKg4 := kb BKg4 hs (Iv_out (by omega))
  replace BKg5 := kb BKg5 hs (Iv_out (by omega))
  replace BKg7 := kb BKg7 hs (Iv_out (by omega))
  replace HOx := sk HOx hs (Iv_apart (by omega))
  replace BKg10 := kb BKg10 hs (Iv_out (by omega))
  replace HOy := sk HOy hs (Iv_apart (by omega))
  replace BKg11 := kb BKg11 hs (Iv_out (by omega))
  replace HOr := sk HOr hs (Iv_apart (by omega))
  replace HOd := sk HOd hs (Iv_apart (by omega))
  replace HOk := sk HOk hs (Iv_apart (by omega))
  replace BKg16 : Aside0 (w17.heap[g16]? = some (.cells #[.int .i64 q0, .int .i64 q1, .int .i64 q2, .int .i64 q3, .slice k_A bs.length k_c] 27 (0, 0))) := ⟨by rw [← hw]; exact blk_put (blk_put (blk_put (blk_put (blk_put (BKg16.out) 0 _ rfl) 1 _ rfl) 2 _ rfl) 3 _ rfl) 4 _ rfl⟩
  have hq : w.heap.size ≤ g16 := (by omega)
  replace HB : Aside0 (Below w.heap.size w w17) := ⟨by rw [← hw]; exact below_set (below_set (below_set (below_set (below_set (HB.out) hq) hq) hq) hq) hq⟩
  have SZ17 := Aside0.mk (show w16.heap.size ≤ w17.heap.size from hs.1)
  clear q0_ q1_ q2_ q3_ q4_ q5_ q6_ q7_ q8_ q9_ q10_ q11_ q12_ q13_ q14_ q15_
  clear hs hw hq
  obtain ⟨⟨hcg4_0, hfg4_0⟩, ⟨hcg4_1, hfg4_1⟩, ⟨hcg4_2, hfg4_2⟩, ⟨hcg4_3, hfg4_3⟩, ⟨hcg4_4, hfg4_4⟩⟩ := cells5 BKg4.out
  obtain ⟨⟨hcg7_0, hfg7_0⟩, ⟨hcg7_1, hfg7_1⟩, ⟨hcg7_2, hfg7_2⟩, ⟨hcg7_3, hfg7_3⟩⟩ := cells4 BKg7.out
  obtain ⟨⟨hcg10_0, hfg10_0⟩, ⟨hcg10_1, hfg10_1⟩, ⟨hcg10_2, hfg10_2⟩, ⟨hcg10_3, hfg10_3⟩, ⟨hcg10_4, hfg10_4⟩⟩ := cells5 BKg10.out
  obtain ⟨⟨hcg11_0, hfg11_0⟩, ⟨hcg11_1, hfg11_1⟩, ⟨hcg11_2, hfg11_2⟩, ⟨hcg11_3, hfg11_3⟩, ⟨hcg11_4, hfg11_4⟩⟩ := cells5 BKg11.out
  obtain ⟨⟨hcg16_0, hfg16_0⟩, ⟨hcg16_1, hfg16_1⟩, ⟨hcg16_2, hfg16_2⟩, ⟨hcg16_3, hfg16_3⟩, ⟨hcg16_4, hfg16_4⟩⟩ := cells5 BKg16.out
  (try clear hcg4_0 hfg4_0 hcg4_1 hfg4_1 hcg4_2 hfg4_2 hcg4_3 hfg4_3 hcg4_4 hfg4_4)
  (try clear hcg7_0 hfg7_0 hcg7_1 hfg7_1 hcg7_2 hfg7_2 hcg7_3 hfg7_3)
  (try clear hcg10_0 hfg10_0 hcg10_1 hfg10_1 hcg10_2 hfg10_2 hcg10_3 hfg10_3 hcg10_4 hfg10_4)
  (try clear hcg11_0 hfg11_0 hcg11_1 hfg11_1 hcg11_2 hfg11_2 hcg11_3 hfg11_3 hcg11_4 hfg11_4)
  (try clear hcg16_0 hfg16_0 hcg16_1 hfg16_1 hcg16_2 hfg16_2 hcg16_3 hfg16_3 hcg16_4 hfg16_4)
  obtain ⟨⟨hcg4_0, hfg4_0⟩, ⟨hcg4_1, hfg4_1⟩, ⟨hcg4_2, hfg4_2⟩, ⟨hcg4_3, hfg4_3⟩, ⟨hcg4_4, hfg4_4⟩⟩ := cells5 BKg4.out
  obtain ⟨⟨hcg5_0, hfg5_0⟩, ⟨hcg5_1, hfg5_1⟩, ⟨hcg5_2, hfg5_2⟩, ⟨hcg5_3, hfg5_3⟩, ⟨hcg5_4, hfg5_4⟩⟩ := cells5 BKg5.out
  obtain ⟨⟨hcg7_0, hfg7_0⟩, ⟨hcg7_1, hfg7_1⟩, ⟨hcg7_2, hfg7_2⟩, ⟨hcg7_3, hfg7_3⟩⟩ := cells4 BKg7.out
  have tok15 : True := trivial
  go_wp2_with (first | (have _ := tok15; go_at_call 30; (with_reducible refine (twoslotref09_Row.calls k a b c d Am cm sl n rs e1 _ ?s1 HCM.out RRO.out).mono ?_); (case s1 => exact Kd.C_below HCm.out (by repeat (first | exact HB.out | apply below_alloc | apply pw_below_drewN | apply below_drew1))); rintro e w18 ⟨v_r2, rfl, ho, hb⟩; (try clear hcg4_0 hfg4_0 hcg4_1 hfg4_1 hcg4_2 hfg4_2 hcg4_3 hfg4_3 hcg4_4 hfg4_4); (try clear hcg5_0 hfg5_0 hcg5_1 hfg5_1 hcg5_2 hfg5_2 hcg5_3 hfg5_3 hcg5_4 hfg5_4); (try clear hcg7_0 hfg7_0 hcg7_1 hfg7_1 hcg7_2 hfg7_2 hcg7_3 hfg7_3); have hs : Below w17.heap.size w17 w18 := below_step (by repeat (first | exact Below.refl _ _ | apply below_alloc | apply pw_below_drewN | apply below_drew1)) hb; have hl : w17.heap.size ≤ _ := below_size (w := w17) (by repeat (first | exact Below.refl _ _ | apply below_alloc | apply pw_below_drewN | apply below_drew1)); have SZ18 := Aside0.mk (show w17.heap.size ≤ w18.heap.size from hs.size); replace BKg4 := bb BKg4 hs; replace BKg5 := bb BKg5 hs; replace BKg7 := bb BKg7 hs; replace HOx := sb HOx hs; replace BKg10 := bb BKg10 hs; replace HOy := sb HOy hs; replace BKg11 := bb BKg11 hs; replace HOr := sb HOr hs; replace HOd := sb HOd hs; replace HOk := sb HOk hs; replace BKg16 := bb BKg16 hs; have HOr2 := Aside0.mk (N_ivw (b := w.heap.size) (lo := w17.heap.size) ho (fun k_ hk_ => .inr (Nat.le_trans hl hk_))); replace HB := hbs HB hs; clear ho; obtain ⟨r2_A, r2_c, e_⟩ := Kd.N_slice HOr2.out; subst e_; clear hb hs; (try clear hl); obtain ⟨⟨hcg4_0, hfg4_0⟩, ⟨hcg4_1, hfg4_1⟩, ⟨hcg4_2, hfg4_2⟩, ⟨hcg4_3, hfg4_3⟩, ⟨hcg4_4, hfg4_4⟩⟩ := cells5 BKg4.out; obtain ⟨⟨hcg5_0, hfg5_0⟩, ⟨hcg5_1, hfg5_1⟩, ⟨hcg5_2, hfg5_2⟩, ⟨hcg5_3, hfg5_3⟩, ⟨hcg5_4, hfg5_4⟩⟩ := cells5 BKg5.out; obtain ⟨⟨hcg7_0, hfg7_0⟩, ⟨hcg7_1, hfg7_1⟩, ⟨hcg7_2, hfg7_2⟩, ⟨hcg7_3, hfg7_3⟩⟩ := cells4 BKg7.out; clear tok15; have tok16 : True := trivial) | (have _ := tok16; go_at_call 31; (with_reducible refine (twoslotref09_Diff.calls k a b c d Am cm sl i1 i2 i3 i4 Bm cb yl ds e2 _ ?s1 HCM.out ?s2 HCB.out RDI.out).mono ?_); (case s1 => exact Kd.C_below HCm.out (by repeat (first | exact HB.out | apply below_alloc | apply pw_below_drewN | apply below_drew1))); (case s2 => exact Kd.C_below HCb.out (by repeat (first | exact HB.out | apply below_alloc | apply pw_below_drewN | apply below_drew1))); rintro e w19 ⟨v_d2, rfl, ho, hb⟩; (try clear hcg4_0 hfg4_0 hcg4_1 hfg4_1 hcg4_2 hfg4_2 hcg4_3 hfg4_3 hcg4_4 hfg4_4); (try clear hcg5_0 hfg5_0 hcg5_1 hfg5_1 hcg5_2 hfg5_2 hcg5_3 hfg5_3 hcg5_4 hfg5_4); (try clear hcg7_0 hfg7_0 hcg7_1 hfg7_1 hcg7_2 hfg7_2 hcg7_3 hfg7_3); have hs : Below w18.heap.size w18 w19 := below_step (by repeat (first | exact Below.refl _ _ | apply below_alloc | apply pw_below_drewN | apply below_drew1)) hb; have hl : w18.heap.size ≤ _ := below_size (w := w18) (by repeat (first | exact Below.refl _ _ | apply below_alloc | apply pw_below_drewN | apply below_drew1)); have SZ19 := Aside0.mk (show w18.heap.size ≤ w19.heap.size from hs.size); replace BKg4 := bb BKg4 hs; replace BKg5 := bb BKg5 hs; replace BKg7 := bb BKg7 hs; replace HOx := sb HOx hs; replace BKg10 := bb BKg10 hs; replace HOy := sb HOy hs; replace BKg11 := bb BKg11 hs; replace HOr := sb HOr hs; replace HOd := sb HOd hs; replace HOk := sb HOk hs; replace BKg16 := bb BKg16 hs; replace HOr2 := Aside0.mk (Kd.N_below HOr2.out hs); have HOd2 := Aside0.mk (S_iv ho (below_size (by repeat (first | exact HB.out | apply below_alloc | apply pw_below_drewN | apply below_drew1))) hl); replace HB := hbs HB hs; clear ho; obtain ⟨d2_A, d2_c, e_⟩ := Kd.S_slice HOd2.out; subst e_; clear hb hs; (try clear hl); obtain ⟨⟨hcg4_0, hfg4_0⟩, ⟨hcg4_1, hfg4_1⟩, ⟨hcg4_2, hfg4_2⟩, ⟨hcg4_3, hfg4_3⟩, ⟨hcg4_4, hfg4_4⟩⟩ := cells5 BKg4.out; obtain ⟨⟨hcg5_0, hfg5_0⟩, ⟨hcg5_1, hfg5_1⟩, ⟨hcg5_2, hfg5_2⟩, ⟨hcg5_3, hfg5_3⟩, ⟨hcg5_4, hfg5_4⟩⟩ := cells5 BKg5.out; obtain ⟨⟨hcg7_0, hfg7_0⟩, ⟨hcg7_1, hfg7_1⟩, ⟨hcg7_2, hfg7_2⟩, ⟨hcg7_3, hfg7_3⟩⟩ := cells4 BKg7.out; clear tok16; have tok17 : True := trivial) | (have _ := tok17; go_at_call 32; (with_reducible refine (twoslotref09_Blank.calls p0 p1 p2 p3 q0 q1 q2 q3 bs e3 _ RBL.out).mono ?_); rintro e w20 ⟨v_k2, rfl, ho, hb⟩; (try clear hcg4_0 hfg4_0 hcg4_1 hfg4_1 hcg4_2 hfg4_2 hcg4_3 hfg4_3 hcg4_4 hfg4_4); (try clear hcg5_0 hfg5_0 hcg5_1 hfg5_1 hcg5_2 hfg5_2 hcg5_3 hfg5_3 hcg5_4 hfg5_4); (try clear hcg7_0 hfg7_0 hcg7_1 hfg7_1 hcg7_2 hfg7_2 hcg7_3 hfg7_3); have hs : Below w19.heap.size w19 w20 := below_step (by repeat (first | exact Below.refl _ _ | apply below_alloc | apply pw_below_drewN | apply below_drew1)) hb; have hl : w19.heap.size ≤ _ := below_size (w := w19) (by repeat (first | exact Below.refl _ _ | apply below_alloc | apply pw_below_drewN | apply below_drew1)); have SZ20 := Aside0.mk (show w19.heap.size ≤ w20.heap.size from hs.size); replace BKg4 := bb BKg4 hs; replace BKg5 := bb BKg5 hs; replace BKg7 := bb BKg7 hs; replace HOx := sb HOx hs; replace BKg10 := bb BKg10 hs; replace HOy := sb HOy hs; replace BKg11 := bb BKg11 hs; replace HOr := sb HOr hs; replace HOd := sb HOd hs; replace HOk := sb HOk hs; replace BKg16 := bb BKg16 hs; replace HOr2 := Aside0.mk (Kd.N_below HOr2.out hs); replace HOd2 := sb HOd2 hs; have HOk2 := Aside0.mk (S_iv ho (below_size (by repeat (first | exact HB.out | apply below_alloc | apply pw_below_drewN | apply below_drew1))) hl); replace HB := hbs HB hs; clear ho; obtain ⟨k2_A, k2_c, e_⟩ := Kd.S_slice HOk2.out; subst e_; clear hb hs; (try clear hl); obtain ⟨⟨hcg4_0, hfg4_0⟩, ⟨hcg4_1, hfg4_1⟩, ⟨hcg4_2, hfg4_2⟩, ⟨hcg4_3, hfg4_3⟩, ⟨hcg4_4, hfg4_4⟩⟩ := cells5 BKg4.out; obtain ⟨⟨hcg5_0, hfg5_0⟩, ⟨hcg5_1, hfg5_1⟩, ⟨hcg5_2, hfg5_2⟩, ⟨hcg5_3, hfg5_3⟩, ⟨hcg5_4, hfg5_4⟩⟩ := cells5 BKg5.out; obtain ⟨⟨hcg7_0, hfg7_0⟩, ⟨hcg7_1, hfg7_1⟩, ⟨hcg7_2, hfg7_2⟩, ⟨hcg7_3, hfg7_3⟩⟩ := cells4 BKg7.out; clear tok17; have tok18 : True := trivial) | (have _ := tok18; (with_reducible refine gate_dst (N := 22) rfl ?_); refine box_event ?hg (N := 22) ?hd (cs := #[.int .i64 0, .int .i64 0, .int .i64 0, .int .i64 0, .slice none 0 0]) (t := 27) ?hr ?_; (case hd => rfl); (case hg => rfl); (case hr => first | (go_simp; done) | (go_simp; rfl)); intro g22 hg w21 hbox hb; have hs : Below w20.heap.size w20 w21 := below_step (by repeat (first | exact Below.refl _ _ | apply below_alloc | apply pw_below_drewN | apply below_drew1)) hb; have SZ21 := Aside0.mk (show w20.heap.size ≤ g22 ∧ g22 < w21.heap.size from ⟨by rw [hg]; exact (below_size (by repeat (first | exact Below.refl _ _ | apply below_alloc | apply pw_below_drewN | apply below_drew1))), blk_lt hbox⟩); (try clear hcg4_0 hfg4_0 hcg4_1 hfg4_1 hcg4_2 hfg4_2 hcg4_3 hfg4_3 hcg4_4 hfg4_4); (try clear hcg5_0 hfg5_0 hcg5_1 hfg5_1 hcg5_2 hfg5_2 hcg5_3 hfg5_3 hcg5_4 hfg5_4); (try clear hcg7_0 hfg7_0 hcg7_1 hfg7_1 hcg7_2 hfg7_2 hcg7_3 hfg7_3); replace BKg4 := bb BKg4 hs; replace BKg5 := bb BKg5 hs; replace BKg7 := bb BKg7 hs; replace HOx := sb HOx hs; replace BKg10 := bb BKg10 hs; replace HOy := sb HOy hs; replace BKg11 := bb BKg11 hs; replace HOr := sb HOr hs; replace HOd := sb HOd hs; replace HOk := sb HOk hs; replace BKg16 := bb BKg16 hs; replace HOr2 := Aside0.mk (Kd.N_below HOr2.out hs); replace HOd2 := sb HOd2 hs; replace HOk2 := sb HOk2 hs; replace HB := hbs HB hs; have q0_ := SZ1.out; have q1_ := SZ2.out; have q2_ := SZ3.out; have q3_ := SZ4.out; have q4_ := SZ5.out; have q5_ := SZ6.out; have q6_ := SZ7.out; have q7_ := SZ8.out; have q8_ := SZ9.out; have q9_ := SZ10.out; have q10_ := SZ11.out; have q11_ := SZ12.out; have q12_ := SZ13.out; have q13_ := SZ14.out; have q14_ := SZ15.out; have q15_ := SZ16.out; have q16_ := SZ17.out; have q17_ := SZ18.out; have q18_ := SZ19.out; have q19_ := SZ20.out; have q20_ := SZ21.out; have hneg4_g22 : g4 ≠ g22 := (by omega); have hneg22_g4 := hneg4_g22.symm; have hneg5_g22 : g5 ≠ g22 := (by omega); have hneg22_g5 := hneg5_g22.symm; have hneg7_g22 : g7 ≠ g22 := (by omega); have hneg22_g7 := hneg7_g22.symm; have hneg10_g22 : g10 ≠ g22 := (by omega); have hneg22_g10 := hneg10_g22.symm; have hneg11_g22 : g11 ≠ g22 := (by omega); have hneg22_g11 := hneg11_g22.symm; have hneg16_g22 : g16 ≠ g22 := (by omega); have hneg22_g16 := hneg16_g22.symm; clear q0_ q1_ q2_ q3_ q4_ q5_ q6_ q7_ q8_ q9_ q10_ q11_ q12_ q13_ q14_ q15_ q16_ q17_ q18_ q19_ q20_; have BKg22 := Aside0.mk hbox; clear hb hbox hg hs; obtain ⟨⟨hcg4_0, hfg4_0⟩, ⟨hcg4_1, hfg4_1⟩, ⟨hcg4_2, hfg4_2⟩, ⟨hcg4_3, hfg4_3⟩, ⟨hcg4_4, hfg4_4⟩⟩ := cells5 BKg4.out; obtain ⟨⟨hcg5_0, hfg5_0⟩, ⟨hcg5_1, hfg5_1⟩, ⟨hcg5_2, hfg5_2⟩, ⟨hcg5_3, hfg5_3⟩, ⟨hcg5_4, hfg5_4⟩⟩ := cells5 BKg5.out; obtain ⟨⟨hcg7_0, hfg7_0⟩, ⟨hcg7_1, hfg7_1⟩, ⟨hcg7_2, hfg7_2⟩, ⟨hcg7_3, hfg7_3⟩⟩ := cells4 BKg7.out; obtain ⟨⟨hcg22_0, hfg22_0⟩, ⟨hcg22_1, hfg22_1⟩, ⟨hcg22_2, hfg22_2⟩, ⟨hcg22_3, hfg22_3⟩, ⟨hcg22_4, hfg22_4⟩⟩ := cells5 BKg22.out; clear tok18))
  (try clear hcg4_0 hfg4_0 hcg4_1 hfg4_1 hcg4_2 hfg4_2 hcg4_3 hfg4_3 hcg4_4 hfg4_4)
  (try clear hcg5_0 hfg5_0 hcg5_1 hfg5_1 hcg5_2 hfg5_2 hcg5_3 hfg5_3 hcg5_4 hfg5_4)
  (try clear hcg7_0 hfg7_0 hcg7_1 hfg7_1 hcg7_2 hfg7_2 hcg7_3 hfg7_3)
  (try clear hcg22_0 hfg22_0 hcg22_1 hfg22_1 hcg22_2 hfg22_2 hcg22_3 hfg22_3 hcg22_4 hfg22_4)
  have q0_ := SZ1.out
  have q1_ := SZ2.out
  have q2_ := SZ3.out
  have q3_ := SZ4.out
  have q4_ := SZ5.out
  have q5_ := SZ6.out
  have q6_ := SZ7.out
  have q7_ := SZ8.out
  have q8_ := SZ9.out
  have q9_ := SZ10.out
  have q10_ := SZ11.out
  have q11_ := SZ12.out
  have q12_ := SZ13.out
  have q13_ := SZ14.out
  have q14_ := SZ15.out
  have q15_ := SZ16.out
  have q16_ := SZ17.out
  have q17_ := SZ18.out
  have q18_ := SZ19.out
  have q19_ := SZ20.out
  have q20_ := SZ21.out
  generalize hw : (((((w21.setCell ⟨g22, 0, none⟩ (.int .i64 q0)).setCell ⟨g22, 1, none⟩ (.int .i64 q1)).setCell ⟨g22, 2, none⟩ (.int .i64 q2)).setCell ⟨g22, 3, none⟩ (.int .i64 q3)).setCell ⟨g22, 4, none⟩ (.slice k2_A bs.length k2_c)) = w22
  have hs : Kept w21 w22 (Iv g22 (g22 + 1)) := by rw [← hw]; exact kput (kput (kput (kput (kput (Kept.refl _ _)))))
  replace BKg4 := kb BKg4 hs (Iv_out (by omega))
  replace BKg5 := kb BKg5 hs (Iv_out (by omega))
  replace BKg7 := kb BKg7 hs (Iv_out (by omega))
  replace HOx := sk HOx hs (Iv_apart (by omega))
  replace BKg10 := kb BKg10 hs (Iv_out (by omega))
  replace HOy := sk HOy hs (Iv_apart (by omega))
  replace BKg11 := kb BKg11 hs (Iv_out (by omega))
  replace HOr := sk HOr hs (Iv_apart (by omega))
  replace HOd := sk HOd hs (Iv_apart (by omega))
  replace HOk := sk HOk hs (Iv_apart (by omega))
  replace BKg16 := kb BKg16 hs (Iv_out (by omega))
  replace HOr2 := Aside0.mk (Kd.N_kept HOr2.out hs (Ivw_apart (by omega)))
  replace HOd2 := sk HOd2 hs (Iv_apart (by omega))
  replace HOk2 := sk HOk2 hs (Iv_apart (by omega))
  replace BKg22 : Aside0 (w22.heap[g22]? = some (.cells #[.int .i64 q0, .int .i64 q1, .int .i64 q2, .int .i64 q3, .slice k2_A bs.length k2_c] 27 (0, 0))) := ⟨by rw [← hw]; exact blk_put (blk_put (blk_put (blk_put (blk_put (BKg22.out) 0 _ rfl) 1 _ rfl) 2 _ rfl) 3 _ rfl) 4 _ rfl⟩
  have hq : w.heap.size ≤ g22 := (by omega)
  replace HB : Aside0 (Below w.heap.size w w22) := ⟨by rw [← hw]; exact below_set (below_set (below_set (below_set (below_set (HB.out) hq) hq) hq) hq) hq⟩
  have SZ22 := Aside0.mk (show w21.heap.size ≤ w22.heap.size from hs.1)
  clear q0_ q1_ q2_ q3_ q4_ q5_ q6_ q7_ q8_ q9_ q10_ q11_ q12_ q13_ q14_ q15_ q16_ q17_ q18_ q19_ q20_
  clear hs hw hq
  obtain ⟨⟨hcg4_0, hfg4_0⟩, ⟨hcg4_1, hfg4_1⟩, ⟨hcg4_2, hfg4_2⟩, ⟨hcg4_3, hfg4_3⟩, ⟨hcg4_4, hfg4_4⟩⟩ := cells5 BKg4.out
  obtain ⟨⟨hcg5_0, hfg5_0⟩, ⟨hcg5_1, hfg5_1⟩, ⟨hcg5_2, hfg5_2⟩, ⟨hcg5_3, hfg5_3⟩, ⟨hcg5_4, hfg5_4⟩⟩ := cells5 BKg5.out
  obtain ⟨⟨hcg7_0, hfg7_0⟩, ⟨hcg7_1, hfg7_1⟩, ⟨hcg7_2, hfg7_2⟩, ⟨hcg7_3, hfg7_3⟩⟩ := cells4 BKg7.out
  obtain ⟨⟨hcg22_0, hfg22_0⟩, ⟨hcg22_1, hfg22_1⟩, ⟨hcg22_2, hfg22_2⟩, ⟨hcg22_3, hfg22_3⟩, ⟨hcg22_4, hfg22_4⟩⟩ := cells5 BKg22.out
  (try clear hcg4_0 hfg4_0 hcg4_1 hfg4_1 hcg4_2 hfg4_2 hcg4_3 hfg4_3 hcg4_4 hfg4_4)
  (try clear hcg5_0 hfg5_0 hcg5_1 hfg5_1 hcg5_2 hfg5_2 hcg5_3 hfg5_3 hcg5_4 hfg5_4)
  (try clear hcg7_0 hfg7_0 hcg7_1 hfg7_1 hcg7_2 hfg7_2 hcg7_3 hfg7_3)
  (try clear hcg22_0 hfg22_0 hcg22_1 hfg22_1 hcg22_2 hfg22_2 hcg22_3 hfg22_3 hcg22_4 hfg22_4)
  clear BKg7
  obtain ⟨⟨hcg4_0, hfg4_0⟩, ⟨hcg4_1, hfg4_1⟩, ⟨hcg4_2, hfg4_2⟩, ⟨hcg4_3, hfg4_3⟩, ⟨hcg4_4, hfg4_4⟩⟩ := cells5 BKg4.out
  obtain ⟨⟨hcg5_0, hfg5_0⟩, ⟨hcg5_1, hfg5_1⟩, ⟨hcg5_2, hfg5_2⟩, ⟨hcg5_3, hfg5_3⟩, ⟨hcg5_4, hfg5_4⟩⟩ := cells5 BKg5.out
  obtain ⟨⟨hcg22_0, hfg22_0⟩, ⟨hcg22_1, hfg22_1⟩, ⟨hcg22_2, hfg22_2⟩, ⟨hcg22_3, hfg22_3⟩, ⟨hcg22_4, hfg22_4⟩⟩ := cells5 BKg22.out
  (try clear hcg4_0 hfg4_0 hcg4_1 hfg4_1 hcg4_2 hfg4_2 hcg4_3 hfg4_3 hcg4_4 hfg4_4)
  (try clear hcg5_0 hfg5_0 hcg5_1 hfg5_1 hcg5_2 hfg5_2 hcg5_3 hfg5_3 hcg5_4 hfg5_4)
  (try clear hcg22_0 hfg22_0 hcg22_1 hfg22_1 hcg22_2 hfg22_2 hcg22_3 hfg22_3 hcg22_4 hfg22_4)
  obtain ⟨⟨hcg4_0, hfg4_0⟩, ⟨hcg4_1, hfg4_1⟩, ⟨hcg4_2, hfg4_2⟩, ⟨hcg4_3, hfg4_3⟩, ⟨hcg4_4, hfg4_4⟩⟩ := cells5 BKg4.out
  obtain ⟨⟨hcg5_0, hfg5_0⟩, ⟨hcg5_1, hfg5_1⟩, ⟨hcg5_2, hfg5_2⟩, ⟨hcg5_3, hfg5_3⟩, ⟨hcg5_4, hfg5_4⟩⟩ := cells5 BKg5.out
  obtain ⟨⟨hcg10_0, hfg10_0⟩, ⟨hcg10_1, hfg10_1⟩, ⟨hcg10_2, hfg10_2⟩, ⟨hcg10_3, hfg10_3⟩, ⟨hcg10_4, hfg10_4⟩⟩ := cells5 BKg10.out
  obtain ⟨⟨hcg11_0, hfg11_0⟩, ⟨hcg11_1, hfg11_1⟩, ⟨hcg11_2, hfg11_2⟩, ⟨hcg11_3, hfg11_3⟩, ⟨hcg11_4, hfg11_4⟩⟩ := cells5 BKg11.out
  obtain ⟨⟨hcg16_0, hfg16_0⟩, ⟨hcg16_1, hfg16_1⟩, ⟨hcg16_2, hfg16_2⟩, ⟨hcg16_3, hfg16_3⟩, ⟨hcg16_4, hfg16_4⟩⟩ := cells5 BKg16.out
  obtain ⟨⟨hcg22_0, hfg22_0⟩, ⟨hcg22_1, hfg22_1⟩, ⟨hcg22_2, hfg22_2⟩, ⟨hcg22_3, hfg22_3⟩, ⟨hcg22_4, hfg22_4⟩⟩ := cells5 BKg22.out
  (try clear hcg4_0 hfg4_0 hcg4_1 hfg4_1 hcg4_2 hfg4_2 hcg4_3 hfg4_3 hcg4_4 hfg4_4)
  (try clear hcg5_0 hfg5_0 hcg5_1 hfg5_1 hcg5_2 hfg5_2 hcg5_3 hfg5_3 hcg5_4 hfg5_4)
  (try clear hcg10_0 hfg10_0 hcg10_1 hfg10_1 hcg10_2 hfg10_2 hcg10_3 hfg10_3 hcg10_4 hfg10_4)
  (try clear hcg11_0 hfg11_0 hcg11_1 hfg11_1 hcg11_2 hfg11_2 hcg11_3 hfg11_3 hcg11_4 hfg11_4)
  (try clear hcg16_0 hfg16_0 hcg16_1 hfg16_1 hcg16_2 hfg16_2 hcg16_3 hfg16_3 hcg16_4 hfg16_4)
  (try clear hcg22_0 hfg22_0 hcg22_1 hfg22_1 hcg22_2 hfg22_2 hcg22_3 hfg22_3 hcg22_4 hfg22_4)
  have hs : Below w22.heap.size w22 (World.drew w22) := below_drew1 (Below.refl _ _)
  have SZ23 := Aside0.mk (show w22.heap.size ≤ (World.drew w22).heap.size from hs.size)
  replace BKg4 := bb BKg4 hs
  replace BKg5 := bb BKg5 hs
  replace HOx := sb HOx hs
  replace BKg10 := bb BKg10 hs
  replace HOy := sb HOy hs
  replace BKg11 := bb BKg11 hs
  replace HOr := sb HOr hs
  replace HOd := sb HOd hs
  replace HOk := sb HOk hs
  replace BKg16 := bb BKg16 hs
  replace HOr2 := Aside0.mk (Kd.N_below HOr2.out hs)
  replace HOd2 := sb HOd2 hs
  replace HOk2 := sb HOk2 hs
  replace BKg22 := bb BKg22 hs
  have n_ := Aside0.mk (below_step HB.out hs)
  clear HB
  have HB := n_
  clear n_ hs
  refine start_ (n := 23) (S := fun w' => w'.cell? ⟨g4, 0, none⟩ = some (.int .i64 a) ∧ w'.cell? ⟨g4, 1, none⟩ = some (.int .i64 b) ∧ w'.cell? ⟨g4, 2, none⟩ = some (.int .i64 c) ∧ w'.cell? ⟨g4, 3, none⟩ = some (.int .i64 d) ∧ w'.cell? ⟨g4, 4, none⟩ = some (.slice Am sl.length cm) ∧ w'.cell? ⟨g5, 0, none⟩ = some (.int .i64 i1) ∧ w'.cell? ⟨g5, 1, none⟩ = some (.int .i64 i2) ∧ w'.cell? ⟨g5, 2, none⟩ = some (.int .i64 i3) ∧ w'.cell? ⟨g5, 3, none⟩ = some (.int .i64 i4) ∧ w'.cell? ⟨g5, 4, none⟩ = some (.slice Bm yl.length cb) ∧ w'.cell? ⟨g10, 0, none⟩ = some (.int .i64 a) ∧ w'.cell? ⟨g10, 1, none⟩ = some (.int .i64 b) ∧ w'.cell? ⟨g10, 2, none⟩ = some (.int .i64 c) ∧ w'.cell? ⟨g10, 3, none⟩ = some (.int .i64 d) ∧ w'.cell? ⟨g10, 4, none⟩ = some (.slice x_A sl.length x_c) ∧ w'.cell? ⟨g11, 0, none⟩ = some (.int .i64 i1) ∧ w'.cell? ⟨g11, 1, none⟩ = some (.int .i64 i2) ∧ w'.cell? ⟨g11, 2, none⟩ = some (.int .i64 i3) ∧ w'.cell? ⟨g11, 3, none⟩ = some (.int .i64 i4) ∧ w'.cell? ⟨g11, 4, none⟩ = some (.slice y_A yl.length y_c) ∧ w'.cell? ⟨g16, 0, none⟩ = some (.int .i64 q0) ∧ w'.cell? ⟨g16, 1, none⟩ = some (.int .i64 q1) ∧ w'.cell? ⟨g16, 2, none⟩ = some (.int .i64 q2) ∧ w'.cell? ⟨g16, 3, none⟩ = some (.int .i64 q3) ∧ w'.cell? ⟨g16, 4, none⟩ = some (.slice k_A bs.length k_c) ∧ w'.cell? ⟨g22, 0, none⟩ = some (.int .i64 q0) ∧ w'.cell? ⟨g22, 1, none⟩ = some (.int .i64 q1) ∧ w'.cell? ⟨g22, 2, none⟩ = some (.int .i64 q2) ∧ w'.cell? ⟨g22, 3, none⟩ = some (.int .i64 q3) ∧ w'.cell? ⟨g22, 4, none⟩ = some (.slice k2_A bs.length k2_c)) (ds := []) #[false, false, false, false, false, false, false, false, false, false, false, false, false, false, false, false, false, false, false, false, false, false, false] (by kernel_rfl) rfl rfl ⟨(blk_cell BKg4.out 0).trans rfl, (blk_cell BKg4.out 1).trans rfl, (blk_cell BKg4.out 2).trans rfl, (blk_cell BKg4.out 3).trans rfl, (blk_cell BKg4.out 4).trans rfl, (blk_cell BKg5.out 0).trans rfl, (blk_cell BKg5.out 1).trans rfl, (blk_cell BKg5.out 2).trans rfl, (blk_cell BKg5.out 3).trans rfl, (blk_cell BKg5.out 4).trans rfl, (blk_cell BKg10.out 0).trans rfl, (blk_cell BKg10.out 1).trans rfl, (blk_cell BKg10.out 2).trans rfl, (blk_cell BKg10.out 3).trans rfl, (blk_cell BKg10.out 4).trans rfl, (blk_cell BKg11.out 0).trans rfl, (blk_cell BKg11.out 1).trans rfl, (blk_cell BKg11.out 2).trans rfl, (blk_cell BKg11.out 3).trans rfl, (blk_cell BKg11.out 4).trans rfl, (blk_cell BKg16.out 0).trans rfl, (blk_cell BKg16.out 1).trans rfl, (blk_cell BKg16.out 2).trans rfl, (blk_cell BKg16.out 3).trans rfl, (blk_cell BKg16.out 4).trans rfl, (blk_cell BKg22.out 0).trans rfl, (blk_cell BKg22.out 1).trans rfl, (blk_cell BKg22.out 2).trans rfl, (blk_cell BKg22.out 3).trans rfl, (blk_cell BKg22.out 4).trans rfl⟩ (fun hHeld => ?_)
  generalize World.drew w22 = w23 at HB BKg4 BKg5 HOx BKg10 HOy BKg11 HOr HOd HOk BKg16 HOr2 HOd2 HOk2 BKg22 SZ23 hHeld ⊢
  refine pure_ (i := 0) (N := some 74) (v := ?_) (a' := ?_) #[true, false, false, false, false, false, false, false, false, false, false, false, false, false, false, false, false, false, false, false, false, false, false] rfl rfl (by kernel_rfl) (fun _ _ _ h => h) (Or.inl ⟨by rfl, ?_⟩) ?_ ?_
  rotate_left
  · intro w'
    go_simp
    with_reducible rfl
  rotate_left
  · simp only [Act.put, List.setIfInBounds_toArray, List.set_cons_zero, List.set_cons_succ, i64_w, i32_w]
    rfl
  refine pure_ (i := 1) (N := some 75) (v := ?_) (a' := ?_) #[true, true, false, false, false, false, false, false, false, false, false, false, false, false, false, false, false, false, false, false, false, false, false] rfl rfl (by kernel_rfl) (fun _ _ _ h => h) (Or.inl ⟨by rfl, ?_⟩) ?_ ?_
  rotate_left
  · intro w'
    go_simp
    with_reducible rfl
  rotate_left
  · simp only [Act.put, List.setIfInBounds_toArray, List.set_cons_zero, List.set_cons_succ, i64_w, i32_w]
    rfl
  refine one_ (i := 2) (N := some 76) #[true, true, true, false, false, false, false, false, false, false, false, false, false, false, false, false, false, false, false, false, false, false, false] rfl rfl (by kernel_rfl) (by decide) (fun K hK => ?_)
  refine goes_ Try.func33 (by kernel_rfl) rfl #[.slice r_A rs.length r_c, .slice r2_A rs.length r2_c] (by rfl) rfl rfl (by simp only [List.map_toArray, List.map_cons, List.map_nil]; rfl) ?_
  with_reducible refine (twoslotref09_SamePairs.calls k r_A r_c rs r2_A r2_c rs true _ ?s1 (Kd.S_reads' HOr.out).2.1 ?s2 (Kd.N_reads' HOr2.out).2.1 HSP.out).mono ?_
  (case s1 => exact (Kd.S_reads' (Kd.S_below HOr.out (by repeat (first | exact Below.refl _ _ | apply below_alloc | apply pw_below_drewN | apply below_drew1)))).2.2)
  (case s2 => exact (Kd.N_reads' (Kd.N_below HOr2.out (by repeat (first | exact Below.refl _ _ | apply below_alloc | apply pw_below_drewN | apply below_drew1)))).2.2)
  rintro e w24 ⟨rfl, hd⟩
  refine ⟨_, rfl, ?_⟩
  have hb := hd.below
  have hs : Below w23.heap.size w23 w24 := below_step (by repeat (first | exact Below.refl _ _ | apply below_alloc | apply pw_below_drewN | apply below_drew1)) hb
  have hl : w23.heap.size ≤ _ := below_size (w := w23) (by repeat (first | exact Below.refl _ _ | apply below_alloc | apply pw_below_drewN | apply below_drew1))
  have SZ24 := Aside0.mk (show w23.heap.size ≤ w24.heap.size from hs.size)
  replace BKg4 := bb BKg4 hs
  replace BKg5 := bb BKg5 hs
  replace HOx := sb HOx hs
  replace BKg10 := bb BKg10 hs
  replace HOy := sb HOy hs
  replace BKg11 := bb BKg11 hs
  replace HOr := sb HOr hs
  replace HOd := sb HOd hs
  replace HOk := sb HOk hs
  replace BKg16 := bb BKg16 hs
  replace HOr2 := Aside0.mk (Kd.N_below HOr2.out hs)
  replace HOd2 := sb HOd2 hs
  replace HOk2 := sb HOk2 hs
  replace BKg22 := bb BKg22 hs
  have n_ := Aside0.mk (below_step HB.out hs)
  clear HB
  have HB := n_
  clear n_ hs hb
  (try clear hl)
  refine hK.out _ _ ⟨(blk_cell BKg4.out 0).trans rfl, (blk_cell BKg4.out 1).trans rfl, (blk_cell BKg4.out 2).trans rfl, (blk_cell BKg4.out 3).trans rfl, (blk_cell BKg4.out 4).trans rfl, (blk_cell BKg5.out 0).trans rfl, (blk_cell BKg5.out 1).trans rfl, (blk_cell BKg5.out 2).trans rfl, (blk_cell BKg5.out 3).trans rfl, (blk_cell BKg5.out 4).trans rfl, (blk_cell BKg10.out 0).trans rfl, (blk_cell BKg10.out 1).trans rfl, (blk_cell BKg10.out 2).trans rfl, (blk_cell BKg10.out 3).trans rfl, (blk_cell BKg10.out 4).trans rfl, (blk_cell BKg11.out 0).trans rfl, (blk_cell BKg11.out 1).trans rfl, (blk_cell BKg11.out 2).trans rfl, (blk_cell BKg11.out 3).trans rfl, (blk_cell BKg11.out 4).trans rfl, (blk_cell BKg16.out 0).trans rfl, (blk_cell BKg16.out 1).trans rfl, (blk_cell BKg16.out 2).trans rfl, (blk_cell BKg16.out 3).trans rfl, (blk_cell BKg16.out 4).trans rfl, (blk_cell BKg22.out 0).trans rfl, (blk_cell BKg22.out 1).trans rfl, (blk_cell BKg22.out 2).trans rfl, (blk_cell BKg22.out 3).trans rfl, (blk_cell BKg22.out 4).trans rfl⟩ (fun hHeld => ?_)
  clear hK K
  refine norm_ (a' := ?_) ?_ ?_
  rotate_left
  · show Act.put _ (some 76) _ = _
    simp only [Act.put, List.setIfInBounds_toArray, List.set_cons_zero, List.set_cons_succ, i64_w, i32_w]
    rfl
  refine pure_ (i := 3) (N := some 77) (v := ?_) (a' := ?_) #[true, true, true, true, false, false, false, false, false, false, false, false, false, false, false, false, false, false, false, false, false, false, false] rfl rfl (by kernel_rfl) (fun _ _ _ h => h) (Or.inl ⟨by rfl, ?_⟩) ?_ ?_
  rotate_left
  · intro w'
    go_simp
    with_reducible rfl
  rotate_left
  · simp only [Act.put, List.setIfInBounds_toArray, List.set_cons_zero, List.set_cons_succ, i64_w, i32_w]
    rfl
  refine pure_ (i := 4) (N := some 78) (v := ?_) (a' := ?_) #[true, true, true, true, true, false, false, false, false, false, false, false, false, false, false, false, false, false, false, false, false, false, false] rfl rfl (by kernel_rfl) (fun _ _ _ h => h) (Or.inl ⟨by rfl, ?_⟩) ?_ ?_
  rotate_left
  · intro w'
    go_simp
    with_reducible rfl
  rotate_left
  · simp only [Act.put, List.setIfInBounds_toArray, List.set_cons_zero, List.set_cons_succ, i64_w, i32_w]
    rfl
  refine pure_ (i := 5) (N := some 79) (v := ?_) (a' := ?_) #[true, true, true, true, true, true, false, false, false, false, false, false, false, false, false, false, false, false, false, false, false, false, false] rfl rfl (by kernel_rfl) (fun _ _ _ h => h) (Or.inl ⟨by rfl, ?_⟩) ?_ ?_
  rotate_left
  · intro w'
    go_simp
    with_reducible rfl
  rotate_left
  · simp only [Act.put, List.setIfInBounds_toArray, List.set_cons_zero, List.set_cons_succ, i64_w, i32_w]
    rfl
  refine one_ (i := 6) (N := some 80) #[true, true, true, true, true, true, true, false, false, false, false, false, false, false, false, false, false, false, false, false, false, false, false] rfl rfl (by kernel_rfl) (by decide) (fun K hK => ?_)
  refine goes_ Try.func29 (by kernel_rfl) rfl #[.slice d_A ds.length d_c, .slice d2_A ds.length d2_c] (by rfl) rfl rfl (by simp only [List.map_toArray, List.map_cons, List.map_nil]; rfl) ?_
  with_reducible refine (twoslotref09_SamePuts.calls k d_A d_c ds d2_A d2_c ds true _ ?s1 (Kd.S_reads' HOd.out).2.1 ?s2 (Kd.S_reads' HOd2.out).2.1 HSU.out).mono ?_
  (case s1 => exact (Kd.S_reads' (Kd.S_below HOd.out (by repeat (first | exact Below.refl _ _ | apply below_alloc | apply pw_below_drewN | apply below_drew1)))).2.2)
  (case s2 => exact (Kd.S_reads' (Kd.S_below HOd2.out (by repeat (first | exact Below.refl _ _ | apply below_alloc | apply pw_below_drewN | apply below_drew1)))).2.2)
  rintro e w25 ⟨rfl, hd⟩
  refine ⟨_, rfl, ?_⟩
  have hb := hd.below
  have hs : Below w24.heap.size w24 w25 := below_step (by repeat (first | exact Below.refl _ _ | apply below_alloc | apply pw_below_drewN | apply below_drew1)) hb
  have hl : w24.heap.size ≤ _ := below_size (w := w24) (by repeat (first | exact Below.refl _ _ | apply below_alloc | apply pw_below_drewN | apply below_drew1))
  have SZ25 := Aside0.mk (show w24.heap.size ≤ w25.heap.size from hs.size)
  replace BKg4 := bb BKg4 hs
  replace BKg5 := bb BKg5 hs
  replace HOx := sb HOx hs
  replace BKg10 := bb BKg10 hs
  replace HOy := sb HOy hs
  replace BKg11 := bb BKg11 hs
  replace HOr := sb HOr hs
  replace HOd := sb HOd hs
  replace HOk := sb HOk hs
  replace BKg16 := bb BKg16 hs
  replace HOr2 := Aside0.mk (Kd.N_below HOr2.out hs)
  replace HOd2 := sb HOd2 hs
  replace HOk2 := sb HOk2 hs
  replace BKg22 := bb BKg22 hs
  have n_ := Aside0.mk (below_step HB.out hs)
  clear HB
  have HB := n_
  clear n_ hs hb
  (try clear hl)
  refine hK.out _ _ ⟨(blk_cell BKg4.out 0).trans rfl, (blk_cell BKg4.out 1).trans rfl, (blk_cell BKg4.out 2).trans rfl, (blk_cell BKg4.out 3).trans rfl, (blk_cell BKg4.out 4).trans rfl, (blk_cell BKg5.out 0).trans rfl, (blk_cell BKg5.out 1).trans rfl, (blk_cell BKg5.out 2).trans rfl, (blk_cell BKg5.out 3).trans rfl, (blk_cell BKg5.out 4).trans rfl, (blk_cell BKg10.out 0).trans rfl, (blk_cell BKg10.out 1).trans rfl, (blk_cell BKg10.out 2).trans rfl, (blk_cell BKg10.out 3).trans rfl, (blk_cell BKg10.out 4).trans rfl, (blk_cell BKg11.out 0).trans rfl, (blk_cell BKg11.out 1).trans rfl, (blk_cell BKg11.out 2).trans rfl, (blk_cell BKg11.out 3).trans rfl, (blk_cell BKg11.out 4).trans rfl, (blk_cell BKg16.out 0).trans rfl, (blk_cell BKg16.out 1).trans rfl, (blk_cell BKg16.out 2).trans rfl, (blk_cell BKg16.out 3).trans rfl, (blk_cell BKg16.out 4).trans rfl, (blk_cell BKg22.out 0).trans rfl, (blk_cell BKg22.out 1).trans rfl, (blk_cell BKg22.out 2).trans rfl, (blk_cell BKg22.out 3).trans rfl, (blk_cell BKg22.out 4).trans rfl⟩ (fun hHeld => ?_)
  clear hK K
  refine norm_ (a' := ?_) ?_ ?_
  rotate_left
  · show Act.put _ (some 80) _ = _
    simp only [Act.put, List.setIfInBounds_toArray, List.set_cons_zero, List.set_cons_succ, i64_w, i32_w]
    rfl
  refine pure_ (i := 7) (N := some 81) (v := ?_) (a' := ?_) #[true, true, true, true, true, true, true, true, false, false, false, false, false, false, false, false, false, false, false, false, false, false, false] rfl rfl (by kernel_rfl) (fun _ _ _ h => h) (Or.inl ⟨by rfl, ?_⟩) ?_ ?_
  rotate_left
  · intro w'
    go_simp
    with_reducible rfl
  rotate_left
  · simp only [Act.put, List.setIfInBounds_toArray, List.set_cons_zero, List.set_cons_succ, i64_w, i32_w]
    rfl
  refine pure_ (i := 8) (N := some 82) (v := ?_) (a' := ?_) #[true, true, true, true, true, true, true, true, true, false, false, false, false, false, false, false, false, false, false, false, false, false, false] rfl rfl (by kernel_rfl) (fun _ _ _ h => h) (Or.inl ⟨by rfl, ?_⟩) ?_ ?_
  rotate_left
  · intro w'
    go_simp
    with_reducible rfl
  rotate_left
  · simp only [Act.put, List.setIfInBounds_toArray, List.set_cons_zero, List.set_cons_succ, i64_w, i32_w]
    rfl
  refine take_ (i := 9) (N := some 83) (v := ?_) (a' := ?_) #[true, true, true, true, true, true, true, true, true, true, false, false, false, false, false, false, false, false, false, false, false, false, false] rfl rfl (by kernel_rfl) (fun _ _ _ h => h) (Or.inl ⟨by rfl, ?_⟩) hHeld ?_ ?_
  rotate_left
  · rintro w' ⟨s0, s1, s2, s3, s4, s5, s6, s7, s8, s9, s10, s11, s12, s13, s14, s15, s16, s17, s18, s19, s20, s21, s22, s23, s24, s25, s26, s27, s28, s29⟩
    go_simp
    with_reducible rfl
  rotate_left
  · simp only [Act.put, List.setIfInBounds_toArray, List.set_cons_zero, List.set_cons_succ, i64_w, i32_w]
    rfl
  refine take_ (i := 10) (N := some 84) (v := ?_) (a' := ?_) #[true, true, true, true, true, true, true, true, true, true, true, false, false, false, false, false, false, false, false, false, false, false, false] rfl rfl (by kernel_rfl) (fun _ _ _ h => h) (Or.inl ⟨by rfl, ?_⟩) hHeld ?_ ?_
  rotate_left
  · rintro w' ⟨s0, s1, s2, s3, s4, s5, s6, s7, s8, s9, s10, s11, s12, s13, s14, s15, s16, s17, s18, s19, s20, s21, s22, s23, s24, s25, s26, s27, s28, s29⟩
    go_simp
    with_reducible rfl
  rotate_left
  · simp only [Act.put, List.setIfInBounds_toArray, List.set_cons_zero, List.set_cons_succ, i64_w, i32_w]
    rfl
  refine one_ (i := 11) (N := some 85) #[true, true, true, true, true, true, true, true, true, true, true, true, false, false, false, false, false, false, false, false, false, false, false] rfl rfl (by kernel_rfl) (by decide) (fun K hK => ?_)
  refine goes_ Try.func26 (by kernel_rfl) rfl #[.agg #[.int .i64 q0, .int .i64 q1, .int .i64 q2, .int .i64 q3, .slice k_A bs.length k_c], .agg #[.int .i64 q0, .int .i64 q1, .int .i64 q2, .int .i64 q3, .slice k2_A bs.length k2_c]] (by rfl) rfl rfl (by simp only [List.map_toArray, List.map_cons, List.map_nil]; rfl) ?_
  with_reducible refine (twoslotref09_Same.calls k q0 q1 q2 q3 k_A k_c bs q0 q1 q2 q3 k2_A k2_c bs true _ ?s1 (Kd.S_reads' HOk.out).2.1 ?s2 (Kd.S_reads' HOk2.out).2.1 HSB.out).mono ?_
  (case s1 => exact (Kd.S_reads' (Kd.S_below HOk.out (by repeat (first | exact Below.refl _ _ | apply below_alloc | apply pw_below_drewN | apply below_drew1)))).2.2)
  (case s2 => exact (Kd.S_reads' (Kd.S_below HOk2.out (by repeat (first | exact Below.refl _ _ | apply below_alloc | apply pw_below_drewN | apply below_drew1)))).2.2)
  rintro e w26 ⟨rfl, hb⟩
  refine ⟨_, rfl, ?_⟩
  have hs : Below w25.heap.size w25 w26 := below_step (by repeat (first | exact Below.refl _ _ | apply below_alloc | apply pw_below_drewN | apply below_drew1)) hb
  have hl : w25.heap.size ≤ _ := below_size (w := w25) (by repeat (first | exact Below.refl _ _ | apply below_alloc | apply pw_below_drewN | apply below_drew1))
  have SZ26 := Aside0.mk (show w25.heap.size ≤ w26.heap.size from hs.size)
  replace BKg4 := bb BKg4 hs
  replace BKg5 := bb BKg5 hs
  replace HOx := sb HOx hs
  replace BKg10 := bb BKg10 hs
  replace HOy := sb HOy hs
  replace BKg11 := bb BKg11 hs
  replace HOr := sb HOr hs
  replace HOd := sb HOd hs
  replace HOk := sb HOk hs
  replace BKg16 := bb BKg16 hs
  replace HOr2 := Aside0.mk (Kd.N_below HOr2.out hs)
  replace HOd2 := sb HOd2 hs
  replace HOk2 := sb HOk2 hs
  replace BKg22 := bb BKg22 hs
  have n_ := Aside0.mk (below_step HB.out hs)
  clear HB
  have HB := n_
  clear n_ hs hb
  (try clear hl)
  refine hK.out _ _ ⟨(blk_cell BKg4.out 0).trans rfl, (blk_cell BKg4.out 1).trans rfl, (blk_cell BKg4.out 2).trans rfl, (blk_cell BKg4.out 3).trans rfl, (blk_cell BKg4.out 4).trans rfl, (blk_cell BKg5.out 0).trans rfl, (blk_cell BKg5.out 1).trans rfl, (blk_cell BKg5.out 2).trans rfl, (blk_cell BKg5.out 3).trans rfl, (blk_cell BKg5.out 4).trans rfl, (blk_cell BKg10.out 0).trans rfl, (blk_cell BKg10.out 1).trans rfl, (blk_cell BKg10.out 2).trans rfl, (blk_cell BKg10.out 3).trans rfl, (blk_cell BKg10.out 4).trans rfl, (blk_cell BKg11.out 0).trans rfl, (blk_cell BKg11.out 1).trans rfl, (blk_cell BKg11.out 2).trans rfl, (blk_cell BKg11.out 3).trans rfl, (blk_cell BKg11.out 4).trans rfl, (blk_cell BKg16.out 0).trans rfl, (blk_cell BKg16.out 1).trans rfl, (blk_cell BKg16.out 2).trans rfl, (blk_cell BKg16.out 3).trans rfl, (blk_cell BKg16.out 4).trans rfl, (blk_cell BKg22.out 0).trans rfl, (blk_cell BKg22.out 1).trans rfl, (blk_cell BKg22.out 2).trans rfl, (blk_cell BKg22.out 3).trans rfl, (blk_cell BKg22.out 4).trans rfl⟩ (fun hHeld => ?_)
  clear hK K
  refine norm_ (a' := ?_) ?_ ?_
  rotate_left
  · show Act.put _ (some 85) _ = _
    simp only [Act.put, List.setIfInBounds_toArray, List.set_cons_zero, List.set_cons_succ, i64_w, i32_w]
    rfl
  refine pure_ (i := 12) (N := some 86) (v := ?_) (a' := ?_) #[true, true, true, true, true, true, true, true, true, true, true, true, true, false, false, false, false, false, false, false, false, false, false] rfl rfl (by kernel_rfl) (fun _ _ _ h => h) (Or.inl ⟨by rfl, ?_⟩) ?_ ?_
  rotate_left
  · intro w'
    go_simp
    with_reducible rfl
  rotate_left
  · simp only [Act.put, List.setIfInBounds_toArray, List.set_cons_zero, List.set_cons_succ, i64_w, i32_w]
    rfl
  refine pure_ (i := 13) (N := some 87) (v := ?_) (a' := ?_) #[true, true, true, true, true, true, true, true, true, true, true, true, true, true, false, false, false, false, false, false, false, false, false] rfl rfl (by kernel_rfl) (fun _ _ _ h => h) (Or.inl ⟨by rfl, ?_⟩) ?_ ?_
  rotate_left
  · intro w'
    go_simp
    with_reducible rfl
  rotate_left
  · simp only [Act.put, List.setIfInBounds_toArray, List.set_cons_zero, List.set_cons_succ, i64_w, i32_w]
    rfl
  refine take_ (i := 14) (N := some 88) (v := ?_) (a' := ?_) #[true, true, true, true, true, true, true, true, true, true, true, true, true, true, true, false, false, false, false, false, false, false, false] rfl rfl (by kernel_rfl) (fun _ _ _ h => h) (Or.inl ⟨by rfl, ?_⟩) hHeld ?_ ?_
  rotate_left
  · rintro w' ⟨s0, s1, s2, s3, s4, s5, s6, s7, s8, s9, s10, s11, s12, s13, s14, s15, s16, s17, s18, s19, s20, s21, s22, s23, s24, s25, s26, s27, s28, s29⟩
    go_simp
    with_reducible rfl
  rotate_left
  · simp only [Act.put, List.setIfInBounds_toArray, List.set_cons_zero, List.set_cons_succ, i64_w, i32_w]
    rfl
  refine take_ (i := 15) (N := some 89) (v := ?_) (a' := ?_) #[true, true, true, true, true, true, true, true, true, true, true, true, true, true, true, true, false, false, false, false, false, false, false] rfl rfl (by kernel_rfl) (fun _ _ _ h => h) (Or.inl ⟨by rfl, ?_⟩) hHeld ?_ ?_
  rotate_left
  · rintro w' ⟨s0, s1, s2, s3, s4, s5, s6, s7, s8, s9, s10, s11, s12, s13, s14, s15, s16, s17, s18, s19, s20, s21, s22, s23, s24, s25, s26, s27, s28, s29⟩
    go_simp
    with_reducible rfl
  rotate_left
  · simp only [Act.put, List.setIfInBounds_toArray, List.set_cons_zero, List.set_cons_succ, i64_w, i32_w]
    rfl
  refine take_ (i := 17) (N := some 91) (v := ?_) (a' := ?_) #[true, true, true, true, true, true, true, true, true, true, true, true, true, true, true, true, false, true, false, false, false, false, false] rfl rfl (by kernel_rfl) (fun _ _ _ h => h) (Or.inl ⟨by rfl, ?_⟩) hHeld ?_ ?_
  rotate_left
  · rintro w' ⟨s0, s1, s2, s3, s4, s5, s6, s7, s8, s9, s10, s11, s12, s13, s14, s15, s16, s17, s18, s19, s20, s21, s22, s23, s24, s25, s26, s27, s28, s29⟩
    go_simp
    with_reducible rfl
  rotate_left
  · simp only [Act.put, List.setIfInBounds_toArray, List.set_cons_zero, List.set_cons_succ, i64_w, i32_w]
    rfl
  refine take_ (i := 18) (N := some 92) (v := ?_) (a' := ?_) #[true, true, true, true, true, true, true, true, true, true, true, true, true, true, true, true, false, true, true, false, false, false, false] rfl rfl (by kernel_rfl) (fun _ _ _ h => h) (Or.inl ⟨by rfl, ?_⟩) hHeld ?_ ?_
  rotate_left
  · rintro w' ⟨s0, s1, s2, s3, s4, s5, s6, s7, s8, s9, s10, s11, s12, s13, s14, s15, s16, s17, s18, s19, s20, s21, s22, s23, s24, s25, s26, s27, s28, s29⟩
    go_simp
    with_reducible rfl
  rotate_left
  · simp only [Act.put, List.setIfInBounds_toArray, List.set_cons_zero, List.set_cons_succ, i64_w, i32_w]
    rfl
  refine one_ (i := 16) (N := some 90) #[true, true, true, true, true, true, true, true, true, true, true, true, true, true, true, true, true, true, true, false, false, false, false] rfl rfl (by kernel_rfl) (by decide) (fun K hK => ?_)
  refine goes_ Try.func34 (by kernel_rfl) rfl #[.agg #[.int .i64 a, .int .i64 b, .int .i64 c, .int .i64 d, .slice x_A sl.length x_c], .agg #[.int .i64 i1, .int .i64 i2, .int .i64 i3, .int .i64 i4, .slice y_A yl.length y_c]] (by rfl) rfl rfl (by simp only [List.map_toArray, List.map_cons, List.map_nil]; rfl) ?_
  with_reducible refine (image_Same.calls k a b c d x_A x_c sl i1 i2 i3 i4 y_A y_c yl sm _ ?s1 (Kd.S_reads' HOx.out).2.1 ?s2 (Kd.S_reads' HOy.out).2.1 HIM.out).mono ?_
  (case s1 => exact (Kd.S_reads' (Kd.S_below HOx.out (by repeat (first | exact Below.refl _ _ | apply below_alloc | apply pw_below_drewN | apply below_drew1)))).2.2)
  (case s2 => exact (Kd.S_reads' (Kd.S_below HOy.out (by repeat (first | exact Below.refl _ _ | apply below_alloc | apply pw_below_drewN | apply below_drew1)))).2.2)
  rintro e w27 ⟨rfl, hb⟩
  refine ⟨_, rfl, ?_⟩
  have hs : Below w26.heap.size w26 w27 := below_step (by repeat (first | exact Below.refl _ _ | apply below_alloc | apply pw_below_drewN | apply below_drew1)) hb
  have hl : w26.heap.size ≤ _ := below_size (w := w26) (by repeat (first | exact Below.refl _ _ | apply below_alloc | apply pw_below_drewN | apply below_drew1))
  have SZ27 := Aside0.mk (show w26.heap.size ≤ w27.heap.size from hs.size)
  replace BKg4 := bb BKg4 hs
  replace BKg5 := bb BKg5 hs
  replace HOx := sb HOx hs
  replace BKg10 := bb BKg10 hs
  replace HOy := sb HOy hs
  replace BKg11 := bb BKg11 hs
  replace HOr := sb HOr hs
  replace HOd := sb HOd hs
  replace HOk := sb HOk hs
  replace BKg16 := bb BKg16 hs
  replace HOr2 := Aside0.mk (Kd.N_below HOr2.out hs)
  replace HOd2 := sb HOd2 hs
  replace HOk2 := sb HOk2 hs
  replace BKg22 := bb BKg22 hs
  have n_ := Aside0.mk (below_step HB.out hs)
  clear HB
  have HB := n_
  clear n_ hs hb
  (try clear hl)
  refine hK.out _ _ ⟨(blk_cell BKg4.out 0).trans rfl, (blk_cell BKg4.out 1).trans rfl, (blk_cell BKg4.out 2).trans rfl, (blk_cell BKg4.out 3).trans rfl, (blk_cell BKg4.out 4).trans rfl, (blk_cell BKg5.out 0).trans rfl, (blk_cell BKg5.out 1).trans rfl, (blk_cell BKg5.out 2).trans rfl, (blk_cell BKg5.out 3).trans rfl, (blk_cell BKg5.out 4).trans rfl, (blk_cell BKg10.out 0).trans rfl, (blk_cell BKg10.out 1).trans rfl, (blk_cell BKg10.out 2).trans rfl, (blk_cell BKg10.out 3).trans rfl, (blk_cell BKg10.out 4).trans rfl, (blk_cell BKg11.out 0).trans rfl, (blk_cell BKg11.out 1).trans rfl, (blk_cell BKg11.out 2).trans rfl, (blk_cell BKg11.out 3).trans rfl, (blk_cell BKg11.out 4).trans rfl, (blk_cell BKg16.out 0).trans rfl, (blk_cell BKg16.out 1).trans rfl, (blk_cell BKg16.out 2).trans rfl, (blk_cell BKg16.out 3).trans rfl, (blk_cell BKg16.out 4).trans rfl, (blk_cell BKg22.out 0).trans rfl, (blk_cell BKg22.out 1).trans rfl, (blk_cell BKg22.out 2).trans rfl, (blk_cell BKg22.out 3).trans rfl, (blk_cell BKg22.out 4).trans rfl⟩ (fun hHeld => ?_)
  clear hK K
  refine norm_ (a' := ?_) ?_ ?_
  rotate_left
  · show Act.put _ (some 90) _ = _
    simp only [Act.put, List.setIfInBounds_toArray, List.set_cons_zero, List.set_cons_succ, i64_w, i32_w]
    rfl
  refine one_ (i := 19) (N := some 93) #[true, true, true, true, true, true, true, true, true, true, true, true, true, true, true, true, true, true, true, true, false, false, false] rfl rfl (by kernel_rfl) (by decide) (fun K hK => ?_)
  refine goes_ Try.func26 (by kernel_rfl) rfl #[.agg #[.int .i64 a, .int .i64 b, .int .i64 c, .int .i64 d, .slice Am sl.length cm], .agg #[.int .i64 i1, .int .i64 i2, .int .i64 i3, .int .i64 i4, .slice Bm yl.length cb]] (by rfl) rfl rfl (by simp only [List.map_toArray, List.map_cons, List.map_nil]; rfl) ?_
  with_reducible refine (twoslotref09_Same.calls k a b c d Am cm sl i1 i2 i3 i4 Bm cb yl sm _ ?s1 HCM.out ?s2 HCB.out RSM.out).mono ?_
  (case s1 => exact Kd.C_below HCm.out (by repeat (first | exact HB.out | apply below_alloc | apply pw_below_drewN | apply below_drew1)))
  (case s2 => exact Kd.C_below HCb.out (by repeat (first | exact HB.out | apply below_alloc | apply pw_below_drewN | apply below_drew1)))
  rintro e w28 ⟨rfl, hb⟩
  refine ⟨_, rfl, ?_⟩
  have hs : Below w27.heap.size w27 w28 := below_step (by repeat (first | exact Below.refl _ _ | apply below_alloc | apply pw_below_drewN | apply below_drew1)) hb
  have hl : w27.heap.size ≤ _ := below_size (w := w27) (by repeat (first | exact Below.refl _ _ | apply below_alloc | apply pw_below_drewN | apply below_drew1))
  have SZ28 := Aside0.mk (show w27.heap.size ≤ w28.heap.size from hs.size)
  replace BKg4 := bb BKg4 hs
  replace BKg5 := bb BKg5 hs
  replace HOx := sb HOx hs
  replace BKg10 := bb BKg10 hs
  replace HOy := sb HOy hs
  replace BKg11 := bb BKg11 hs
  replace HOr := sb HOr hs
  replace HOd := sb HOd hs
  replace HOk := sb HOk hs
  replace BKg16 := bb BKg16 hs
  replace HOr2 := Aside0.mk (Kd.N_below HOr2.out hs)
  replace HOd2 := sb HOd2 hs
  replace HOk2 := sb HOk2 hs
  replace BKg22 := bb BKg22 hs
  have n_ := Aside0.mk (below_step HB.out hs)
  clear HB
  have HB := n_
  clear n_ hs hb
  (try clear hl)
  refine hK.out _ _ ⟨(blk_cell BKg4.out 0).trans rfl, (blk_cell BKg4.out 1).trans rfl, (blk_cell BKg4.out 2).trans rfl, (blk_cell BKg4.out 3).trans rfl, (blk_cell BKg4.out 4).trans rfl, (blk_cell BKg5.out 0).trans rfl, (blk_cell BKg5.out 1).trans rfl, (blk_cell BKg5.out 2).trans rfl, (blk_cell BKg5.out 3).trans rfl, (blk_cell BKg5.out 4).trans rfl, (blk_cell BKg10.out 0).trans rfl, (blk_cell BKg10.out 1).trans rfl, (blk_cell BKg10.out 2).trans rfl, (blk_cell BKg10.out 3).trans rfl, (blk_cell BKg10.out 4).trans rfl, (blk_cell BKg11.out 0).trans rfl, (blk_cell BKg11.out 1).trans rfl, (blk_cell BKg11.out 2).trans rfl, (blk_cell BKg11.out 3).trans rfl, (blk_cell BKg11.out 4).trans rfl, (blk_cell BKg16.out 0).trans rfl, (blk_cell BKg16.out 1).trans rfl, (blk_cell BKg16.out 2).trans rfl, (blk_cell BKg16.out 3).trans rfl, (blk_cell BKg16.out 4).trans rfl, (blk_cell BKg22.out 0).trans rfl, (blk_cell BKg22.out 1).trans rfl, (blk_cell BKg22.out 2).trans rfl, (blk_cell BKg22.out 3).trans rfl, (blk_cell BKg22.out 4).trans rfl⟩ (fun hHeld => ?_)
  clear hK K
  refine norm_ (a' := ?_) ?_ ?_
  rotate_left
  · show Act.put _ (some 93) _ = _
    simp only [Act.put, List.setIfInBounds_toArray, List.set_cons_zero, List.set_cons_succ, i64_w, i32_w]
    rfl
  refine pure_ (i := 20) (N := some 94) (v := ?_) (a' := ?_) #[true, true, true, true, true, true, true, true, true, true, true, true, true, true, true, true, true, true, true, true, true, false, false] rfl rfl (by kernel_rfl) (fun _ _ _ h => h) (Or.inl ⟨by rfl, ?_⟩) ?_ ?_
  rotate_left
  · intro w'
    go_simp
    with_reducible rfl
  rotate_left
  · simp only [Act.put, List.setIfInBounds_toArray, List.set_cons_zero, List.set_cons_succ, i64_w, i32_w]
    rfl
  refine pure_ (i := 21) (N := some 95) (v := ?_) (a' := ?_) #[true, true, true, true, true, true, true, true, true, true, true, true, true, true, true, true, true, true, true, true, true, true, false] rfl rfl (by kernel_rfl) (fun _ _ _ h => h) (Or.inl ⟨by rfl, ?_⟩) ?_ ?_
  rotate_left
  · intro w'
    go_simp
    with_reducible rfl
  rotate_left
  · simp only [Act.put, List.setIfInBounds_toArray, List.set_cons_zero, List.set_cons_succ, i64_w, i32_w]
    rfl
  refine pure_ (i := 22) (N := some 24) (v := ?_) (a' := ?_) #[true, true, true, true, true, true, true, true, true, true, true, true, true, true, true, true, true, true, true, true, true, true, true] rfl rfl (by kernel_rfl) (fun _ _ _ h => h) (Or.inl ⟨by rfl, ?_⟩) ?_ ?_
  rotate_left
  · intro w'
    go_simp
    with_reducible rfl
  rotate_left
  · simp only [Act.put, List.setIfInBounds_toArray, List.set_cons_zero, List.set_cons_succ, i64_w, i32_w]
    rfl
  refine done_ (by kernel_rfl) ?_
  obtain ⟨⟨hcg4_0, hfg4_0⟩, ⟨hcg4_1, hfg4_1⟩, ⟨hcg4_2, hfg4_2⟩, ⟨hcg4_3, hfg4_3⟩, ⟨hcg4_4, hfg4_4⟩⟩ := cells5 BKg4.out
  obtain ⟨⟨hcg5_0, hfg5_0⟩, ⟨hcg5_1, hfg5_1⟩, ⟨hcg5_2, hfg5_2⟩, ⟨hcg5_3, hfg5_3⟩, ⟨hcg5_4, hfg5_4⟩⟩ := cells5 BKg5.out
  obtain ⟨⟨hcg10_0, hfg10_0⟩, ⟨hcg10_1, hfg10_1⟩, ⟨hcg10_2, hfg10_2⟩, ⟨hcg10_3, hfg10_3⟩, ⟨hcg10_4, hfg10_4⟩⟩ := cells5 BKg10.out
  obtain ⟨⟨hcg11_0, hfg11_0⟩, ⟨hcg11_1, hfg11_1⟩, ⟨hcg11_2, hfg11_2⟩, ⟨hcg11_3, hfg11_3⟩, ⟨hcg11_4, hfg11_4⟩⟩ := cells5 BKg11.out
  obtain ⟨⟨hcg16_0, hfg16_0⟩, ⟨hcg16_1, hfg16_1⟩, ⟨hcg16_2, hfg16_2⟩, ⟨hcg16_3, hfg16_3⟩, ⟨hcg16_4, hfg16_4⟩⟩ := cells5 BKg16.out
  obtain ⟨⟨hcg22_0, hfg22_0⟩, ⟨hcg22_1, hfg22_1⟩, ⟨hcg22_2, hfg22_2⟩, ⟨hcg22_3, hfg22_3⟩, ⟨hcg22_4, hfg22_4⟩⟩ := cells5 BKg22.out
  (try clear hcg4_0 hfg4_0 hcg4_1 hfg4_1 hcg4_2 hfg4_2 hcg4_3 hfg4_3 hcg4_4 hfg4_4)
  (try clear hcg5_0 hfg5_0 hcg5_1 hfg5_1 hcg5_2 hfg5_2 hcg5_3 hfg5_3 hcg5_4 hfg5_4)
  (try clear hcg10_0 hfg10_0 hcg10_1 hfg10_1 hcg10_2 hfg10_2 hcg10_3 hfg10_3 hcg10_4 hfg10_4)
  (try clear hcg11_0 hfg11_0 hcg11_1 hfg11_1 hcg11_2 hfg11_2 hcg11_3 hfg11_3 hcg11_4 hfg11_4)
  (try clear hcg16_0 hfg16_0 hcg16_1 hfg16_1 hcg16_2 hfg16_2 hcg16_3 hfg16_3 hcg16_4 hfg16_4)
  (try clear hcg22_0 hfg22_0 hcg22_1 hfg22_1 hcg22_2 hfg22_2 hcg22_3 hfg22_3 hcg22_4 hfg22_4)
  clear HOr2
  clear HOd2
  clear HOk
  clear HOk2
  clear BKg16
  clear BKg22
  obtain ⟨⟨hcg4_0, hfg4_0⟩, ⟨hcg4_1, hfg4_1⟩, ⟨hcg4_2, hfg4_2⟩, ⟨hcg4_3, hfg4_3⟩, ⟨hcg4_4, hfg4_4⟩⟩ := cells5 BKg4.out
  obtain ⟨⟨hcg5_0, hfg5_0⟩, ⟨hcg5_1, hfg5_1⟩, ⟨hcg5_2, hfg5_2⟩, ⟨hcg5_3, hfg5_3⟩, ⟨hcg5_4, hfg5_4⟩⟩ := cells5 BKg5.out
  obtain ⟨⟨hcg10_0, hfg10_0⟩, ⟨hcg10_1, hfg10_1⟩, ⟨hcg10_2, hfg10_2⟩, ⟨hcg10_3, hfg10_3⟩, ⟨hcg10_4, hfg10_4⟩⟩ := cells5 BKg10.out
  obtain ⟨⟨hcg11_0, hfg11_0⟩, ⟨hcg11_1, hfg11_1⟩, ⟨hcg11_2, hfg11_2⟩, ⟨hcg11_3, hfg11_3⟩, ⟨hcg11_4, hfg11_4⟩⟩ := cells5 BKg11.out
  (try clear hcg4_0 hfg4_0 hcg4_1 hfg4_1 hcg4_2 hfg4_2 hcg4_3 hfg4_3 hcg4_4 hfg4_4)
  (try clear hcg5_0 hfg5_0 hcg5_1 hfg5_1 hcg5_2 hfg5_2 hcg5_3 hfg5_3 hcg5_4 hfg5_4)
  (try clear hcg10_0 hfg10_0 hcg10_1 hfg10_1 hcg10_2 hfg10_2 hcg10_3 hfg10_3 hcg10_4 hfg10_4)
  (try clear hcg11_0 hfg11_0 hcg11_1 hfg11_1 hcg11_2 hfg11_2 hcg11_3 hfg11_3 hcg11_4 hfg11_4)
  
  go_wp2_with (fail)
  obtain ⟨r_g, r_ok, r_vs, r_a, r_hc, r_hr, r_ho, r_hd⟩ := P_open HOr.out
  have RA := Aside0.mk r_a
  have RC := Aside0.mk r_hc
  have RR := Aside0.mk r_hr
  have RO := Aside0.mk r_ho
  have RD := Aside0.mk r_hd
  clear r_a r_hc r_hr r_ho r_hd HOr
  go_loopg [25] rs.length (fun kq v25 wr => ∃ rk : Nat, v25 = .int .i64 (rk : Int) ∧ Aside0 (rk ≤ rs.length ∧ rs.length - rk ≤ kq) ∧ Aside0 (wr.heap[g4]? = some (.cells #[.int .i64 a, .int .i64 b, .int .i64 c, .int .i64 d, .slice Am sl.length cm] 27 (0, 0))) ∧ Aside0 (wr.heap[g5]? = some (.cells #[.int .i64 i1, .int .i64 i2, .int .i64 i3, .int .i64 i4, .slice Bm yl.length cb] 27 (0, 0))) ∧ Aside0 (Kd.S (Kd.slice 5 (Kd.int .u8)) 33 wr w.heap.size (Iv w6.heap.size w7.heap.size) (.slice x_A sl.length x_c) sl) ∧ Aside0 (wr.heap[g10]? = some (.cells #[.int .i64 a, .int .i64 b, .int .i64 c, .int .i64 d, .slice x_A sl.length x_c] 27 (0, 0))) ∧ Aside0 (Kd.S (Kd.slice 5 (Kd.int .u8)) 33 wr w.heap.size (Iv w9.heap.size w10.heap.size) (.slice y_A yl.length y_c) yl) ∧ Aside0 (wr.heap[g11]? = some (.cells #[.int .i64 i1, .int .i64 i2, .int .i64 i3, .int .i64 i4, .slice y_A yl.length y_c] 27 (0, 0))) ∧ Aside0 (Kd.S k35 35 wr w.heap.size (Iv w13.heap.size w14.heap.size) (.slice d_A ds.length d_c) ds) ∧ Aside0 (∀ j, j < 2 * rs.length → wr.cell? ⟨r_g, j, none⟩ = some (r_vs j)) ∧ Aside0 (∀ j, rk * 2 ≤ j → j < 2 * rs.length → (Kd.int .u8).R 5 wr w.heap.size (r_ok j) (r_vs j) (row2 rs j)) ∧ Aside0 (Below w.heap.size w wr) ∧ Aside0 (w28.heap.size ≤ wr.heap.size))
  case atStart => exact ⟨0, rfl, Aside0.mk ⟨by omega, by omega⟩, Aside0.mk (by (with_reducible repeat (first | refine blk_drewN ?_ _ | refine blk_drew ?_ | refine blk_alloc ?_ _)); exact BKg4.out), Aside0.mk (by (with_reducible repeat (first | refine blk_drewN ?_ _ | refine blk_drew ?_ | refine blk_alloc ?_ _)); exact BKg5.out), Aside0.mk HOx.out, Aside0.mk (by (with_reducible repeat (first | refine blk_drewN ?_ _ | refine blk_drew ?_ | refine blk_alloc ?_ _)); exact BKg10.out), Aside0.mk HOy.out, Aside0.mk (by (with_reducible repeat (first | refine blk_drewN ?_ _ | refine blk_drew ?_ | refine blk_alloc ?_ _)); exact BKg11.out), Aside0.mk HOd.out, Aside0.mk RC.out, Aside0.mk (fun j _ hj => RR.out j hj), Aside0.mk (by repeat (first | exact HB.out | apply below_alloc | apply pw_below_drewN | apply below_drew1)), Aside0.mk (Nat.le_refl _)⟩
  case round =>
    clear BKg4 BKg5 HOx BKg10 HOy BKg11 HOd RC RR HB
    obtain ⟨rk, rfl, RX, BKg4, BKg5, HOx, BKg10, HOy, BKg11, HOd, RC, RR, HB, SZr⟩ := hrel
    by_cases hlt : rk < rs.length
    · have b1 : decide ((rk : Int) < (rs.length : Int)) = true := decide_eq_true (by omega)
      have b2 : decide (rk < rs.length) = true := decide_eq_true hlt
      have b3 : (rk < rs.length) = True := eq_true hlt
      have eA := RA.out (by omega)
      subst eA
      have HLT := Aside0.mk hlt
      clear hlt
      have hck0 := RC.out (rk * 2) (by have := HLT.out; omega)
      have HRk0 := Aside0.mk (RR.out (rk * 2) (by omega) (by have := HLT.out; omega))
      have HSk0 := Aside0.mk (SCR.out (rk * 2) (by have := HLT.out; omega))
      have hck1 := RC.out (rk * 2 + 1) (by have := HLT.out; omega)
      have HRk1 := Aside0.mk (RR.out (rk * 2 + 1) (by omega) (by have := HLT.out; omega))
      have HSk1 := Aside0.mk (SCR.out (rk * 2 + 1) (by have := HLT.out; omega))
      clear hck1
      have tok19 : True := trivial
      go_wp2_with (first | (have _ := tok19; go_at_call 35; (with_reducible refine (twoslotlaw09_scratch.calls k (r_ok (rk * 2)) (r_vs (rk * 2)) (row2 rs (rk * 2)) w _ HB.out HRk0.out HSk0.out).mono ?_); rintro e w29 ⟨rfl, hb, hk⟩; have hs0 : Kept wr w29 (r_ok (rk * 2)) := kept_step (by repeat (first | exact Below.refl _ _ | apply below_alloc | apply pw_below_drewN | apply below_drew1)) hk; have hs : Kept wr w29 (Iv w12.heap.size w13.heap.size) := hs0.mono (fun q_ hq_ => (RO.out _ q_ hq_).1); have SZ29 := Aside0.mk (show wr.heap.size ≤ w29.heap.size from hs.1); have q0_ := SZ1.out; have q1_ := SZ2.out; have q2_ := SZ3.out; have q3_ := SZ4.out; have q4_ := SZ5.out; have q5_ := SZ6.out; have q6_ := SZ7.out; have q7_ := SZ8.out; have q8_ := SZ9.out; have q9_ := SZ10.out; have q10_ := SZ11.out; have q11_ := SZ12.out; have q12_ := SZ13.out; have q13_ := SZ14.out; have q14_ := SZ15.out; have q15_ := SZ16.out; have q16_ := SZ17.out; have q17_ := SZ18.out; have q18_ := SZ19.out; have q19_ := SZ20.out; have q20_ := SZ21.out; have q21_ := SZ22.out; have q22_ := SZ23.out; have q23_ := SZ24.out; have q24_ := SZ25.out; have q25_ := SZ26.out; have q26_ := SZ27.out; have q27_ := SZ28.out; have q28_ := SZr.out; replace BKg4 := kb BKg4 hs (Iv_out (by omega)); replace BKg5 := kb BKg5 hs (Iv_out (by omega)); replace HOx := sk HOx hs (Iv_apart (by omega)); replace BKg10 := kb BKg10 hs (Iv_out (by omega)); replace HOy := sk HOy hs (Iv_apart (by omega)); replace BKg11 := kb BKg11 hs (Iv_out (by omega)); replace HOd := sk HOd hs (Iv_apart (by omega)); clear q0_ q1_ q2_ q3_ q4_ q5_ q6_ q7_ q8_ q9_ q10_ q11_ q12_ q13_ q14_ q15_ q16_ q17_ q18_ q19_ q20_ q21_ q22_ q23_ q24_ q25_ q26_ q27_ q28_; replace RC := Aside0.mk (show ∀ j, j < 2 * rs.length → w29.cell? ⟨r_g, j, none⟩ = some (r_vs j) from fun j hj => cell_kept (RC.out j hj) hs0 (fun h => (RO.out _ _ h).2.1 rfl)); replace RR := Aside0.mk (show ∀ j, rk * 2 + 1 ≤ j → j < 2 * rs.length → (Kd.int .u8).R 5 w29 w.heap.size (r_ok j) (r_vs j) (row2 rs j) from fun j hj hjn => Kd.R_kept (RR.out j (by omega) hjn) hs0 (fun q_ hq_ h => by have := RD.out _ j q_ h hq_; omega)); replace HRk1 := Aside0.mk (Kd.R_kept HRk1.out hs0 (fun q_ hq_ h => by have := RD.out _ _ q_ h hq_; omega)); clear hck0; have hck1 := RC.out (rk * 2 + 1) (by have := HLT.out; omega); clear HB; have HB := Aside0.mk hb; clear hb hk hs hs0; clear tok19; have tok20 : True := trivial) | (have _ := tok20; go_at_call 35; (with_reducible refine (twoslotlaw09_scratch.calls k (r_ok (rk * 2 + 1)) (r_vs (rk * 2 + 1)) (row2 rs (rk * 2 + 1)) w _ HB.out HRk1.out HSk1.out).mono ?_); rintro e w30 ⟨rfl, hb, hk⟩; have hs0 : Kept w29 w30 (r_ok (rk * 2 + 1)) := kept_step (by repeat (first | exact Below.refl _ _ | apply below_alloc | apply pw_below_drewN | apply below_drew1)) hk; have hs : Kept w29 w30 (Iv w12.heap.size w13.heap.size) := hs0.mono (fun q_ hq_ => (RO.out _ q_ hq_).1); have SZ30 := Aside0.mk (show w29.heap.size ≤ w30.heap.size from hs.1); have q0_ := SZ1.out; have q1_ := SZ2.out; have q2_ := SZ3.out; have q3_ := SZ4.out; have q4_ := SZ5.out; have q5_ := SZ6.out; have q6_ := SZ7.out; have q7_ := SZ8.out; have q8_ := SZ9.out; have q9_ := SZ10.out; have q10_ := SZ11.out; have q11_ := SZ12.out; have q12_ := SZ13.out; have q13_ := SZ14.out; have q14_ := SZ15.out; have q15_ := SZ16.out; have q16_ := SZ17.out; have q17_ := SZ18.out; have q18_ := SZ19.out; have q19_ := SZ20.out; have q20_ := SZ21.out; have q21_ := SZ22.out; have q22_ := SZ23.out; have q23_ := SZ24.out; have q24_ := SZ25.out; have q25_ := SZ26.out; have q26_ := SZ27.out; have q27_ := SZ28.out; have q28_ := SZr.out; have q29_ := SZ29.out; replace BKg4 := kb BKg4 hs (Iv_out (by omega)); replace BKg5 := kb BKg5 hs (Iv_out (by omega)); replace HOx := sk HOx hs (Iv_apart (by omega)); replace BKg10 := kb BKg10 hs (Iv_out (by omega)); replace HOy := sk HOy hs (Iv_apart (by omega)); replace BKg11 := kb BKg11 hs (Iv_out (by omega)); replace HOd := sk HOd hs (Iv_apart (by omega)); clear q0_ q1_ q2_ q3_ q4_ q5_ q6_ q7_ q8_ q9_ q10_ q11_ q12_ q13_ q14_ q15_ q16_ q17_ q18_ q19_ q20_ q21_ q22_ q23_ q24_ q25_ q26_ q27_ q28_ q29_; replace RC := Aside0.mk (show ∀ j, j < 2 * rs.length → w30.cell? ⟨r_g, j, none⟩ = some (r_vs j) from fun j hj => cell_kept (RC.out j hj) hs0 (fun h => (RO.out _ _ h).2.1 rfl)); replace RR := Aside0.mk (show ∀ j, rk * 2 + 2 ≤ j → j < 2 * rs.length → (Kd.int .u8).R 5 w30 w.heap.size (r_ok j) (r_vs j) (row2 rs j) from fun j hj hjn => Kd.R_kept (RR.out j (by omega) hjn) hs0 (fun q_ hq_ h => by have := RD.out _ j q_ h hq_; omega)); clear HB; have HB := Aside0.mk hb; clear hb hk hs hs0; clear tok20))
      clear hck1
      have hax := RX.out
      have hlk := HLT.out
      have hnn := LNR.out
      go_roundg (gk - 1)
      case measure => omega
      case rel =>
        refine ⟨rk + 1, by rw [show wrap64 ((rk : Int) + 1) = ((rk + 1 : Nat) : Int) by unfold wrap64; omega], Aside0.mk ⟨by omega, by omega⟩, BKg4, BKg5, HOx, BKg10, HOy, BKg11, HOd, RC, Aside0.mk (fun j hj hjn => RR.out j (by omega) hjn), HB, Aside0.mk (by have := SZr.out; have := SZ29.out; have := SZ30.out; omega)⟩
    · have b1 : decide ((rk : Int) < (rs.length : Int)) = false := decide_eq_false (by omega)
      have b2 : decide (rk < rs.length) = false := decide_eq_false hlt
      have b3 : (rk < rs.length) = False := eq_false hlt
      clear RX RC RR RO RD RA hlt
      generalize wr = wr at BKg4 BKg5 HOx BKg10 HOy BKg11 HOd HB SZr ⊢
      
      
      go_wp2_with (fail)
      obtain ⟨d_g, d_ok, d_vs, d_a, d_hc, d_hr, d_ho, d_hd⟩ := D_open HOd.out
      have DA := Aside0.mk d_a
      have DC := Aside0.mk d_hc
      have DR := Aside0.mk d_hr
      have DO := Aside0.mk d_ho
      have DD := Aside0.mk d_hd
      clear d_a d_hc d_hr d_ho d_hd HOd
      go_loopg [26] ds.length (fun kq v26 wr => ∃ dk : Nat, v26 = .int .i64 (dk : Int) ∧ Aside0 (dk ≤ ds.length ∧ ds.length - dk ≤ kq) ∧ Aside0 (wr.heap[g4]? = some (.cells #[.int .i64 a, .int .i64 b, .int .i64 c, .int .i64 d, .slice Am sl.length cm] 27 (0, 0))) ∧ Aside0 (wr.heap[g5]? = some (.cells #[.int .i64 i1, .int .i64 i2, .int .i64 i3, .int .i64 i4, .slice Bm yl.length cb] 27 (0, 0))) ∧ Aside0 (Kd.S (Kd.slice 5 (Kd.int .u8)) 33 wr w.heap.size (Iv w6.heap.size w7.heap.size) (.slice x_A sl.length x_c) sl) ∧ Aside0 (wr.heap[g10]? = some (.cells #[.int .i64 a, .int .i64 b, .int .i64 c, .int .i64 d, .slice x_A sl.length x_c] 27 (0, 0))) ∧ Aside0 (Kd.S (Kd.slice 5 (Kd.int .u8)) 33 wr w.heap.size (Iv w9.heap.size w10.heap.size) (.slice y_A yl.length y_c) yl) ∧ Aside0 (wr.heap[g11]? = some (.cells #[.int .i64 i1, .int .i64 i2, .int .i64 i3, .int .i64 i4, .slice y_A yl.length y_c] 27 (0, 0))) ∧ Aside0 (∀ j, j < ds.length → wr.cell? ⟨d_g, j * 4 + 3, none⟩ = some (d_vs j)) ∧ Aside0 (∀ j, dk ≤ j → j < ds.length → (Kd.int .u8).R 5 wr w.heap.size (d_ok j) (d_vs j) ((ds.getD j z35).f3)) ∧ Aside0 (Below w.heap.size w wr) ∧ Aside0 (wr.heap.size ≤ wr.heap.size))
      case atStart => exact ⟨0, rfl, Aside0.mk ⟨by omega, by omega⟩, Aside0.mk (by (with_reducible repeat (first | refine blk_drewN ?_ _ | refine blk_drew ?_ | refine blk_alloc ?_ _)); exact BKg4.out), Aside0.mk (by (with_reducible repeat (first | refine blk_drewN ?_ _ | refine blk_drew ?_ | refine blk_alloc ?_ _)); exact BKg5.out), Aside0.mk HOx.out, Aside0.mk (by (with_reducible repeat (first | refine blk_drewN ?_ _ | refine blk_drew ?_ | refine blk_alloc ?_ _)); exact BKg10.out), Aside0.mk HOy.out, Aside0.mk (by (with_reducible repeat (first | refine blk_drewN ?_ _ | refine blk_drew ?_ | refine blk_alloc ?_ _)); exact BKg11.out), Aside0.mk DC.out, Aside0.mk (fun j _ hj => DR.out j hj), Aside0.mk (by repeat (first | exact HB.out | apply below_alloc | apply pw_below_drewN | apply below_drew1)), Aside0.mk (Nat.le_refl _)⟩
      case round =>
        clear BKg4 BKg5 HOx BKg10 HOy BKg11 DC DR HB
        obtain ⟨dk, rfl, DX, BKg4, BKg5, HOx, BKg10, HOy, BKg11, DC, DR, HB, SZd⟩ := hrel
        by_cases hlt : dk < ds.length
        · have b1 : decide ((dk : Int) < (ds.length : Int)) = true := decide_eq_true (by omega)
          have b2 : decide (dk < ds.length) = true := decide_eq_true hlt
          have b3 : (dk < ds.length) = True := eq_true hlt
          have eA := DA.out (by omega)
          subst eA
          have HLT := Aside0.mk hlt
          clear hlt
          have hck0 := DC.out (dk) (by have := HLT.out; omega)
          have HRk0 := Aside0.mk (DR.out (dk) (by omega) (by have := HLT.out; omega))
          have HSk0 := Aside0.mk (SCD.out (dk) (by have := HLT.out; omega))
          have tok21 : True := trivial
          go_wp2_with (first | (have _ := tok21; go_at_call 35; (with_reducible refine (twoslotlaw09_scratch.calls k (d_ok (dk)) (d_vs (dk)) ((ds.getD (dk) z35).f3) w _ HB.out HRk0.out HSk0.out).mono ?_); rintro e w31 ⟨rfl, hb, hk⟩; have hs0 : Kept wr w31 (d_ok (dk)) := kept_step (by repeat (first | exact Below.refl _ _ | apply below_alloc | apply pw_below_drewN | apply below_drew1)) hk; have hs : Kept wr w31 (Iv w13.heap.size w14.heap.size) := hs0.mono (fun q_ hq_ => (DO.out _ q_ hq_).1); have SZ31 := Aside0.mk (show wr.heap.size ≤ w31.heap.size from hs.1); have q0_ := SZ1.out; have q1_ := SZ2.out; have q2_ := SZ3.out; have q3_ := SZ4.out; have q4_ := SZ5.out; have q5_ := SZ6.out; have q6_ := SZ7.out; have q7_ := SZ8.out; have q8_ := SZ9.out; have q9_ := SZ10.out; have q10_ := SZ11.out; have q11_ := SZ12.out; have q12_ := SZ13.out; have q13_ := SZ14.out; have q14_ := SZ15.out; have q15_ := SZ16.out; have q16_ := SZ17.out; have q17_ := SZ18.out; have q18_ := SZ19.out; have q19_ := SZ20.out; have q20_ := SZ21.out; have q21_ := SZ22.out; have q22_ := SZ23.out; have q23_ := SZ24.out; have q24_ := SZ25.out; have q25_ := SZ26.out; have q26_ := SZ27.out; have q27_ := SZ28.out; have q28_ := SZr.out; have q29_ := SZd.out; replace BKg4 := kb BKg4 hs (Iv_out (by omega)); replace BKg5 := kb BKg5 hs (Iv_out (by omega)); replace HOx := sk HOx hs (Iv_apart (by omega)); replace BKg10 := kb BKg10 hs (Iv_out (by omega)); replace HOy := sk HOy hs (Iv_apart (by omega)); replace BKg11 := kb BKg11 hs (Iv_out (by omega)); clear q0_ q1_ q2_ q3_ q4_ q5_ q6_ q7_ q8_ q9_ q10_ q11_ q12_ q13_ q14_ q15_ q16_ q17_ q18_ q19_ q20_ q21_ q22_ q23_ q24_ q25_ q26_ q27_ q28_ q29_; replace DC := Aside0.mk (show ∀ j, j < ds.length → w31.cell? ⟨d_g, j * 4 + 3, none⟩ = some (d_vs j) from fun j hj => cell_kept (DC.out j hj) hs0 (fun h => (DO.out _ _ h).2.1 rfl)); replace DR := Aside0.mk (show ∀ j, dk + 1 ≤ j → j < ds.length → (Kd.int .u8).R 5 w31 w.heap.size (d_ok j) (d_vs j) ((ds.getD j z35).f3) from fun j hj hjn => Kd.R_kept (DR.out j (by omega) hjn) hs0 (fun q_ hq_ h => by have := DD.out _ j q_ h hq_; omega)); clear HB; have HB := Aside0.mk hb; clear hb hk hs hs0; clear tok21))
          clear hck0
          have hax := DX.out
          have hlk := HLT.out
          have hnn := LND.out
          go_roundg (gk - 1)
          case measure => omega
          case rel =>
            refine ⟨dk + 1, by rw [show wrap64 ((dk : Int) + 1) = ((dk + 1 : Nat) : Int) by unfold wrap64; omega], Aside0.mk ⟨by omega, by omega⟩, BKg4, BKg5, HOx, BKg10, HOy, BKg11, DC, Aside0.mk (fun j hj hjn => DR.out j (by omega) hjn), HB, Aside0.mk (by have := SZd.out; have := SZ31.out; omega)⟩
        · have b1 : decide ((dk : Int) < (ds.length : Int)) = false := decide_eq_false (by omega)
          have b2 : decide (dk < ds.length) = false := decide_eq_false hlt
          have b3 : (dk < ds.length) = False := eq_false hlt
          clear DX DC DR DO DD DA hlt
          generalize wr = wd at BKg4 BKg5 HOx BKg10 HOy BKg11 HB SZd ⊢
          
          obtain ⟨⟨hcg4_0, hfg4_0⟩, ⟨hcg4_1, hfg4_1⟩, ⟨hcg4_2, hfg4_2⟩, ⟨hcg4_3, hfg4_3⟩, ⟨hcg4_4, hfg4_4⟩⟩ := cells5 BKg4.out
          obtain ⟨⟨hcg5_0, hfg5_0⟩, ⟨hcg5_1, hfg5_1⟩, ⟨hcg5_2, hfg5_2⟩, ⟨hcg5_3, hfg5_3⟩, ⟨hcg5_4, hfg5_4⟩⟩ := cells5 BKg5.out
          obtain ⟨⟨hcg10_0, hfg10_0⟩, ⟨hcg10_1, hfg10_1⟩, ⟨hcg10_2, hfg10_2⟩, ⟨hcg10_3, hfg10_3⟩, ⟨hcg10_4, hfg10_4⟩⟩ := cells5 BKg10.out
          obtain ⟨⟨hcg11_0, hfg11_0⟩, ⟨hcg11_1, hfg11_1⟩, ⟨hcg11_2, hfg11_2⟩, ⟨hcg11_3, hfg11_3⟩, ⟨hcg11_4, hfg11_4⟩⟩ := cells5 BKg11.out
          have tok22 : True := trivial
          go_wp2_with (first | (have _ := tok22; go_at_call 26; (with_reducible refine (twoslotref09_Same.calls k a b c d x_A x_c sl a b c d Am cm sl true _ ?s1 (Kd.S_reads' HOx.out).2.1 ?s2 HCM.out HS1.out).mono ?_); (case s1 => exact (Kd.S_reads' (Kd.S_below HOx.out (by repeat (first | exact Below.refl _ _ | apply below_alloc | apply pw_below_drewN | apply below_drew1)))).2.2); (case s2 => exact Kd.C_below HCm.out (by repeat (first | exact HB.out | apply below_alloc | apply pw_below_drewN | apply below_drew1))); rintro e w32 ⟨rfl, hb⟩; (try clear hcg4_0 hfg4_0 hcg4_1 hfg4_1 hcg4_2 hfg4_2 hcg4_3 hfg4_3 hcg4_4 hfg4_4); (try clear hcg5_0 hfg5_0 hcg5_1 hfg5_1 hcg5_2 hfg5_2 hcg5_3 hfg5_3 hcg5_4 hfg5_4); (try clear hcg10_0 hfg10_0 hcg10_1 hfg10_1 hcg10_2 hfg10_2 hcg10_3 hfg10_3 hcg10_4 hfg10_4); (try clear hcg11_0 hfg11_0 hcg11_1 hfg11_1 hcg11_2 hfg11_2 hcg11_3 hfg11_3 hcg11_4 hfg11_4); have hs : Below wd.heap.size wd w32 := below_step (by repeat (first | exact Below.refl _ _ | apply below_alloc | apply pw_below_drewN | apply below_drew1)) hb; have hl : wd.heap.size ≤ _ := below_size (w := wd) (by repeat (first | exact Below.refl _ _ | apply below_alloc | apply pw_below_drewN | apply below_drew1)); have SZ32 := Aside0.mk (show wd.heap.size ≤ w32.heap.size from hs.size); replace BKg4 := bb BKg4 hs; replace BKg5 := bb BKg5 hs; replace HOx := sb HOx hs; replace BKg10 := bb BKg10 hs; replace HOy := sb HOy hs; replace BKg11 := bb BKg11 hs; replace HB := hbs HB hs; clear hb hs; (try clear hl); obtain ⟨⟨hcg4_0, hfg4_0⟩, ⟨hcg4_1, hfg4_1⟩, ⟨hcg4_2, hfg4_2⟩, ⟨hcg4_3, hfg4_3⟩, ⟨hcg4_4, hfg4_4⟩⟩ := cells5 BKg4.out; obtain ⟨⟨hcg5_0, hfg5_0⟩, ⟨hcg5_1, hfg5_1⟩, ⟨hcg5_2, hfg5_2⟩, ⟨hcg5_3, hfg5_3⟩, ⟨hcg5_4, hfg5_4⟩⟩ := cells5 BKg5.out; obtain ⟨⟨hcg10_0, hfg10_0⟩, ⟨hcg10_1, hfg10_1⟩, ⟨hcg10_2, hfg10_2⟩, ⟨hcg10_3, hfg10_3⟩, ⟨hcg10_4, hfg10_4⟩⟩ := cells5 BKg10.out; obtain ⟨⟨hcg11_0, hfg11_0⟩, ⟨hcg11_1, hfg11_1⟩, ⟨hcg11_2, hfg11_2⟩, ⟨hcg11_3, hfg11_3⟩, ⟨hcg11_4, hfg11_4⟩⟩ := cells5 BKg11.out; clear tok22; have tok23 : True := trivial) | (have _ := tok23; go_at_call 26; (with_reducible refine (twoslotref09_Same.calls k i1 i2 i3 i4 y_A y_c yl i1 i2 i3 i4 Bm cb yl true _ ?s1 (Kd.S_reads' HOy.out).2.1 ?s2 HCB.out HS2.out).mono ?_); (case s1 => exact (Kd.S_reads' (Kd.S_below HOy.out (by repeat (first | exact Below.refl _ _ | apply below_alloc | apply pw_below_drewN | apply below_drew1)))).2.2); (case s2 => exact Kd.C_below HCb.out (by repeat (first | exact HB.out | apply below_alloc | apply pw_below_drewN | apply below_drew1))); rintro e w33 ⟨rfl, hb⟩; (try clear hcg4_0 hfg4_0 hcg4_1 hfg4_1 hcg4_2 hfg4_2 hcg4_3 hfg4_3 hcg4_4 hfg4_4); (try clear hcg5_0 hfg5_0 hcg5_1 hfg5_1 hcg5_2 hfg5_2 hcg5_3 hfg5_3 hcg5_4 hfg5_4); (try clear hcg10_0 hfg10_0 hcg10_1 hfg10_1 hcg10_2 hfg10_2 hcg10_3 hfg10_3 hcg10_4 hfg10_4); (try clear hcg11_0 hfg11_0 hcg11_1 hfg11_1 hcg11_2 hfg11_2 hcg11_3 hfg11_3 hcg11_4 hfg11_4); have hs : Below w32.heap.size w32 w33 := below_step (by repeat (first | exact Below.refl _ _ | apply below_alloc | apply pw_below_drewN | apply below_drew1)) hb; have hl : w32.heap.size ≤ _ := below_size (w := w32) (by repeat (first | exact Below.refl _ _ | apply below_alloc | apply pw_below_drewN | apply below_drew1)); have SZ33 := Aside0.mk (show w32.heap.size ≤ w33.heap.size from hs.size); replace BKg4 := bb BKg4 hs; replace BKg5 := bb BKg5 hs; replace HOx := sb HOx hs; replace BKg10 := bb BKg10 hs; replace HOy := sb HOy hs; replace BKg11 := bb BKg11 hs; replace HB := hbs HB hs; clear hb hs; (try clear hl); obtain ⟨⟨hcg4_0, hfg4_0⟩, ⟨hcg4_1, hfg4_1⟩, ⟨hcg4_2, hfg4_2⟩, ⟨hcg4_3, hfg4_3⟩, ⟨hcg4_4, hfg4_4⟩⟩ := cells5 BKg4.out; obtain ⟨⟨hcg5_0, hfg5_0⟩, ⟨hcg5_1, hfg5_1⟩, ⟨hcg5_2, hfg5_2⟩, ⟨hcg5_3, hfg5_3⟩, ⟨hcg5_4, hfg5_4⟩⟩ := cells5 BKg5.out; obtain ⟨⟨hcg10_0, hfg10_0⟩, ⟨hcg10_1, hfg10_1⟩, ⟨hcg10_2, hfg10_2⟩, ⟨hcg10_3, hfg10_3⟩, ⟨hcg10_4, hfg10_4⟩⟩ := cells5 BKg10.out; obtain ⟨⟨hcg11_0, hfg11_0⟩, ⟨hcg11_1, hfg11_1⟩, ⟨hcg11_2, hfg11_2⟩, ⟨hcg11_3, hfg11_3⟩, ⟨hcg11_4, hfg11_4⟩⟩ := cells5 BKg11.out; clear tok23))
          go_ret
          exact ⟨by first | rfl | simp, HB.out⟩
end Go.Proofs.Ytcnmocbiekfpbaa.P
