-- Written by a program of this session, after the kit's print.
import Derived.Test.YtcnmocbiekfpbaaPx0
import Derived.Test.YtcnmocbiekfpbaaP0Short
import Derived.Test.YtcnmocbiekfpbaaPx2
import Derived.Test.YtcnmocbiekfpbaaPx3
import Derived.Test.YtcnmocbiekfpbaaPx4
namespace Go.Proofs.Ytcnmocbiekfpbaa.P
open Go.RowKit Go.Proofs.YtcnmocbiekfpbaaW.PrintWords Go.Proofs.YtcnmocbiekfpbaaW.PrintLast Go.Proofs.YtcnmocbiekfpbaaW.PrintMore
attribute [local go_sem] max2_int min2_int max_two min_two max_three min_three max_four min_four   -- for this text's walks alone
set_option linter.unusedVariables false
set_option linter.unusedSimpArgs false

/-- A new row is stored into a row of rows whose inner rows are apart. -/
theorem S_put_row {α : Type} {d : Kd α} {e e' base g n cap i : Nat} {ok okg : Nat → Prop} {W : World} {xs : List (List α)} {x : List α} {v : Value}
  (h : (Kd.slice e' d).S e W base (fun k => ok k ∧ ¬ okg k) (.slice (some ⟨g, 0, none⟩) n cap) xs) (hi : i < xs.length) (hv : d.R e' W base okg v x) (hg : ∀ k, okg k → ok k ∧ k ≠ g) :
  (Kd.slice e' d).S e (W.setCell ⟨g, i, none⟩ v) base ok (.slice (some ⟨g, 0, none⟩) n cap) (xs.set i x) ∧ W.grownBy (W.setCell ⟨g, i, none⟩ v) (some g) := by
 have hn := (Kd.S_reads' h).1
 obtain ⟨oki, c, hcl, _, _, _, _, hH⟩ := Kd.S_elem h [] (i : Int) (by omega) (by omega)
 have hc : c.length = 1 := hcl
 have hM : (Kd.slice e' d).M W base okg x (c.take 0 ++ [v] ++ c.drop (0 + [v].length)) := by
  have e1 : c.take 0 ++ [v] ++ c.drop (0 + [v].length) = [v] := by
   rw [List.take_zero, List.nil_append, show 0 + [v].length = 1 from rfl, List.drop_of_length_le (by omega), List.append_nil]
  rw [e1]
  exact ⟨v, rfl, hv⟩
 have := Kd.S_seg hH (by omega) (by omega) (j := 0) (seg := [v]) (by show 0 + 1 ≤ 1; omega) hM (fun k hk => .inr hk) hg
 have e2 : W.setCells g ((i : Int).toNat * (Kd.slice e' d).sz + 0) [v] = W.setCell ⟨g, i, none⟩ v := by
  have e3 : (i : Int).toNat * (Kd.slice e' d).sz + 0 = i := by
   show (i : Int).toNat * 1 + 0 = i
   omega
  rw [e3]
  rfl
 rw [e2, Int.toNat_natCast] at this
 exact this
/-- May a raw write be? -/
def mayB (a b c d : Int) (x : S35) : Bool := (image_may.f a b c d x.f0 x.f1 x.f2 x.f3).getD false
theorem mayB_f (a b c d : Int) (x : S35) : image_may.f a b c d x.f0 x.f1 x.f2 x.f3 = some (mayB a b c d x) := by
 unfold mayB
 have h : ∃ r, image_may.f a b c d x.f0 x.f1 x.f2 x.f3 = some r := by
  unfold image_may.f image_size.f
  simp only [Option.bind_some]
  repeat (first | exact ⟨_, rfl⟩ | split)
 obtain ⟨r, h⟩ := h
 rw [h]
 rfl
theorem put_elem {w : World} {A : Option Addr} {l : List S35} (h : Kd.C k35 w A l.length l) (k : Nat) (hk : k < l.length) :
  ∃ (ad : Addr) (A3 : Option Addr) (c3 : Nat) (x : S35), A = some ad ∧ l.drop k = x :: l.drop (k + 1) ∧ l.take (k + 1) = l.take k ++ [x] ∧ x.f3.length ≤ c3 ∧
   w.cell? (ad.add (k * 4)) = some (.int .i64 x.f0) ∧ w.cell? ⟨(ad.add (k * 4)).block, (ad.add (k * 4)).off + 1, none⟩ = some (.int .i64 x.f1) ∧ w.cell? ⟨(ad.add (k * 4)).block, (ad.add (k * 4)).off + 2, none⟩ = some (.int .i64 x.f2) ∧ w.cell? ⟨(ad.add (k * 4)).block, (ad.add (k * 4)).off + 3, none⟩ = some (.slice A3 x.f3.length c3) ∧
   Kd.C (Kd.int .u8) w A3 x.f3.length x.f3 := by
 obtain ⟨ad, A3, c3, e, h0, h1, h2, h3, l3, g3⟩ := at_T35 h (k : Int) (by omega) (by omega)
 have e1 : rd_T35 l (k : Int) = l[k] := by simp [rd_T35, hk]
 rw [e1] at h0 h1 h2 h3 l3 g3
 rw [Int.toNat_natCast] at h0 h1 h2 h3
 exact ⟨ad, A3, c3, l[k], e, List.drop_eq_getElem_cons hk, List.take_succ_eq_append_getElem hk, l3, h0, h1, h2, h3, g3⟩
set_option maxHeartbeats 8000000 in
set_option maxRecDepth 100000 in
theorem after1_walk (a b c d : Int) (Am : Option Addr) (cm : Nat) (sl : List (List Int)) (g : Nat) (x : S35) (A3 : Option Addr) (c3 : Nat) (w : World) (hg : w.heap[g]? = some (.cells #[.int .i64 a, .int .i64 b, .int .i64 c, .int .i64 d, .slice Am sl.length cm] 27 (0, 0))) (hC : Kd.C (Kd.int .u8) w A3 x.f3.length x.f3) (hle : x.f3.length ≤ c3) : Calls Try.prog 43 #[.agg #[.int .i64 x.f0, .int .i64 x.f1, .int .i64 x.f2, .slice A3 x.f3.length c3], .pointer (some ⟨g, 0, none⟩)] w fun e w' => e = .returned (.bool (!mayB a b c d x)) ∧ Below w.heap.size w w' := by
 have hu35 := Try.underlying35
 have hu24 := Try.underlying24
 have HB := Aside0.mk (Below.refl w.heap.size w)
 have BKg := Aside0.mk hg
 have HC := Aside0.mk hC
 have ALE := Aside0.mk hle
 have HM := Aside0.mk (mayB_f a b c d x)
 have HZ := Aside0.mk (show g < w.heap.size from blk_lt hg)
 clear hg hC hle
 obtain ⟨hcg_0, hcg_1, hcg_2, hcg_3, hcg_4, hfg_0, hfg_1, hfg_2, hfg_3, hfg_4⟩ := cs5 BKg.out
 go_enter Try.func43, Try.ntmps43
 have tok1 : True := trivial
 go_wp2_with (first | (have _ := tok1; (with_reducible refine gate_dst (N := 2) rfl ?_); refine box_event rfl (N := 2) rfl (cs := #[.int .i64 x.f0, .int .i64 x.f1, .int .i64 x.f2, .slice A3 x.f3.length c3]) (t := 35) (by go_simp; try rfl) ?_; intro g2 hg w1 hbox hb; have hs : Below w.heap.size w w1 := below_step (by repeat (first | exact Below.refl _ _ | apply below_alloc | apply pw_below_drewN | apply below_drew1)) hb; have SZ1 := Aside0.mk (show w.heap.size ≤ g2 ∧ g2 < w1.heap.size from ⟨by rw [hg]; exact (below_size (by repeat (first | exact Below.refl _ _ | apply below_alloc | apply pw_below_drewN | apply below_drew1))), blk_lt hbox⟩); (try clear hcg_0 hfg_0); (try clear hcg_1 hfg_1); (try clear hcg_2 hfg_2); (try clear hcg_3 hfg_3); (try clear hcg_4 hfg_4); replace BKg := Aside0.mk (blk_below BKg.out hs); replace HB := Aside0.mk (below_step HB.out hs); have hneg_g2 : g ≠ g2 := (by have := SZ1.out; have := HZ.out; omega); have hneg2_g : g2 ≠ g := hneg_g2.symm; have BKg2 := Aside0.mk hbox; clear hb hbox hg hs; obtain ⟨hcg_0, hcg_1, hcg_2, hcg_3, hcg_4, hfg_0, hfg_1, hfg_2, hfg_3, hfg_4⟩ := cs5 BKg.out; obtain ⟨hcg2_0, hcg2_1, hcg2_2, hcg2_3, hfg2_0, hfg2_1, hfg2_2, hfg2_3⟩ := cs4 BKg2.out; clear tok1; have tok2 : True := trivial) | (have _ := tok2; go_at_call 44; (with_reducible refine (image_may.calls a b c d x.f0 x.f1 x.f2 A3 c3 x.f3 _ _ ?s1 ALE.out HM.out).mono ?_); (case s1 => exact Kd.C_below HC.out (by repeat (first | exact HB.out | apply below_alloc | apply pw_below_drewN | apply below_drew1))); rintro e w2 ⟨rfl, hb⟩; (try clear hcg_0 hfg_0); (try clear hcg_1 hfg_1); (try clear hcg_2 hfg_2); (try clear hcg_3 hfg_3); (try clear hcg_4 hfg_4); (try clear hcg2_0 hfg2_0); (try clear hcg2_1 hfg2_1); (try clear hcg2_2 hfg2_2); (try clear hcg2_3 hfg2_3); have hs : Below w1.heap.size w1 w2 := below_step (by repeat (first | exact Below.refl _ _ | apply below_alloc | apply pw_below_drewN | apply below_drew1)) hb; have hl : w1.heap.size ≤ _ := below_size (w := w1) (by repeat (first | exact Below.refl _ _ | apply below_alloc | apply pw_below_drewN | apply below_drew1)); have SZ2 := Aside0.mk (show w1.heap.size ≤ w2.heap.size from hs.size); replace BKg := Aside0.mk (blk_below BKg.out hs); replace BKg2 := Aside0.mk (blk_below BKg2.out hs); replace HB := Aside0.mk (below_step HB.out hs); clear hb hs; (try clear hl); obtain ⟨hcg_0, hcg_1, hcg_2, hcg_3, hcg_4, hfg_0, hfg_1, hfg_2, hfg_3, hfg_4⟩ := cs5 BKg.out; obtain ⟨hcg2_0, hcg2_1, hcg2_2, hcg2_3, hfg2_0, hfg2_1, hfg2_2, hfg2_3⟩ := cs4 BKg2.out; clear tok2))
 go_ret
 exact ⟨rfl, HB.out⟩
set_option maxHeartbeats 8000000 in
set_option maxRecDepth 100000 in
theorem index_walk (a b c d : Int) (Am : Option Addr) (cm : Nat) (sl : List (List Int)) (g : Nat) (l : List S35) (A : Option Addr) (cl : Nat) (w : World) (hg : w.heap[g]? = some (.cells #[.int .i64 a, .int .i64 b, .int .i64 c, .int .i64 d, .slice Am sl.length cm] 27 (0, 0))) (hC : Kd.C k35 w A l.length l) (hln : l.length ≤ 70000) : Calls Try.prog 60 #[.slice A l.length cl, .func (.func 43) #[] #[.pointer (some ⟨g, 0, none⟩)]] w fun e w' => ∃ q : Int, e = .returned (.int .i64 q) ∧ (l.all (mayB a b c d) = true → q = -1) ∧ (l.all (mayB a b c d) = false → 0 ≤ q) ∧ Below w.heap.size w w' := by
 have HB := Aside0.mk (Below.refl w.heap.size w)
 have BKg := Aside0.mk hg
 have HC := Aside0.mk hC
 have HLN := Aside0.mk hln
 clear hg hC hln
 go_enter Try.func60, Try.ntmps60
 go_wp2
 go_loopg [8] l.length (fun kq v8 wr => ∃ k : Nat, v8 = .int .i64 (k : Int) ∧ Aside0 (k ≤ l.length ∧ l.length - k ≤ kq) ∧ Aside0 (∀ x ∈ l.take k, mayB a b c d x = true) ∧ Aside0 (Below w.heap.size w wr))
 case atStart => exact ⟨0, rfl, Aside0.mk ⟨by omega, by omega⟩, Aside0.mk (fun x hx => by simp at hx), HB⟩
 case round =>
  clear HB
  obtain ⟨k, rfl, AX, HA, HB⟩ := hrel
  by_cases hlt : k < l.length
  rotate_left
  ·
   have b1 : decide ((k : Int) < (l.length : Int)) = false := decide_eq_false (by omega)
   have b2 : decide (k < l.length) = false := decide_eq_false hlt
   have e : l.take k = l := List.take_of_length_le (by omega)
   clear hlt
   go_wp2
   go_ret
   refine ⟨_, rfl, fun _ => rfl, fun h => ?_, HB.out⟩
   exfalso
   have h2 := HA.out
   rw [e] at h2
   rw [List.all_eq_true.mpr h2] at h
   cases h
  obtain ⟨ad, A3, c3, x, eA, hdr, htk, hle, q0, q1, q2, q3, hCx⟩ := put_elem HC.out k hlt
  subst eA
  have hx0 := pw_cell_below HB.out q0
  have hx1 := pw_cell_below HB.out q1
  have hx2 := pw_cell_below HB.out q2
  have hx3 := pw_cell_below HB.out q3
  have HTK := Aside0.mk htk
  have ALE := Aside0.mk hle
  have HCx := Aside0.mk hCx
  have HK := Aside0.mk hlt
  have b1 : decide ((k : Int) < (l.length : Int)) = true := decide_eq_true (by omega)
  have b2 : decide (k < l.length) = true := decide_eq_true hlt
  have b3 : (k < l.length) = True := eq_true hlt
  clear hlt hdr htk hle q0 q1 q2 q3 hCx
  by_cases hm : mayB a b c d x = true
  rotate_left
  ·
   have hm' : (!mayB a b c d x) = true := by simp [hm]
   have HM := Aside0.mk (show mayB a b c d x = false by simpa using hm)
   clear hm
   go_wp2_with (go_at_call 43; (with_reducible refine (after1_walk a b c d Am cm sl g x A3 c3 _ (blk_below BKg.out (by repeat (first | exact HB.out | apply below_alloc | apply pw_below_drewN | apply below_drew1))) (Kd.C_below HCx.out (by repeat (first | exact HB.out | apply below_alloc | apply pw_below_drewN | apply below_drew1))) ALE.out).mono ?_); rintro e w2 ⟨rfl, hb⟩; rw [hm']; replace HB := Aside0.mk (below_step (by repeat (first | exact HB.out | apply below_alloc | apply pw_below_drewN | apply below_drew1)) hb); clear hb)
   go_ret
   refine ⟨_, rfl, fun h => ?_, fun _ => Int.natCast_nonneg k, HB.out⟩
   exfalso
   rw [List.all_eq_true] at h
   have hx : x ∈ l := List.mem_of_mem_take (i := k + 1) (by rw [HTK.out]; simp)
   have := h x hx
   rw [HM.out] at this
   cases this
  have hm' : (!mayB a b c d x) = false := by rw [hm]; rfl
  have HM := Aside0.mk hm
  clear hm
  go_wp2_with (go_at_call 43; (with_reducible refine (after1_walk a b c d Am cm sl g x A3 c3 _ (blk_below BKg.out (by repeat (first | exact HB.out | apply below_alloc | apply pw_below_drewN | apply below_drew1))) (Kd.C_below HCx.out (by repeat (first | exact HB.out | apply below_alloc | apply pw_below_drewN | apply below_drew1))) ALE.out).mono ?_); rintro e w2 ⟨rfl, hb⟩; rw [hm']; replace HB := Aside0.mk (below_step (by repeat (first | exact HB.out | apply below_alloc | apply pw_below_drewN | apply below_drew1)) hb); clear hb)
  go_roundg (gk - 1)
  case measure =>
   have := AX.out
   have := HK.out
   omega
  case rel =>
   have h1 := AX.out
   have h2 := HK.out
   have h3 := HLN.out
   refine ⟨k + 1, by rw [show wrap64 ((k : Int) + 1) = ((k + 1 : Nat) : Int) by unfold wrap64; omega], Aside0.mk ⟨by omega, by omega⟩, Aside0.mk (fun y hy => ?_), HB⟩
   rw [HTK.out] at hy
   rcases List.mem_append.mp hy with hy | hy
   ·
    exact HA.out y hy
   ·
    obtain rfl : y = x := by simpa using hy
    exact HM.out
set_option maxHeartbeats 8000000 in
set_option maxRecDepth 100000 in
theorem contains_walk (a b c d : Int) (Am : Option Addr) (cm : Nat) (sl : List (List Int)) (g : Nat) (l : List S35) (A : Option Addr) (cl : Nat) (w : World) (hg : w.heap[g]? = some (.cells #[.int .i64 a, .int .i64 b, .int .i64 c, .int .i64 d, .slice Am sl.length cm] 27 (0, 0))) (hC : Kd.C k35 w A l.length l) (hln : l.length ≤ 70000) : Calls Try.prog 42 #[.slice A l.length cl, .func (.func 43) #[] #[.pointer (some ⟨g, 0, none⟩)]] w fun e w' => e = .returned (.bool (!l.all (mayB a b c d))) ∧ Below w.heap.size w w' := by
 have HG := Aside0.mk hg
 have HC := Aside0.mk hC
 have HLN := Aside0.mk hln
 clear hg hC hln
 by_cases h : l.all (mayB a b c d) = true
 rotate_left
 ·
  have hf : l.all (mayB a b c d) = false := by simpa using h
  have H := Aside0.mk hf
  have e1 : (!l.all (mayB a b c d)) = true := by rw [hf]; rfl
  rw [e1]
  clear h hf e1
  go_enter Try.func42, Try.ntmps42
  go_wp2_with (go_at_call 60; (with_reducible refine (index_walk a b c d Am cm sl g l A cl _ HG.out HC.out HLN.out).mono ?_); rintro e w2 ⟨q, rfl, _, h1, hb⟩; have d1 : decide (0 ≤ q) = true := decide_eq_true (h1 H.out); have HB := Aside0.mk hb; clear hb h1)
  go_ret
  exact ⟨rfl, HB.out⟩
 have H := Aside0.mk h
 have e1 : (!l.all (mayB a b c d)) = false := by rw [h]; rfl
 rw [e1]
 clear h e1
 go_enter Try.func42, Try.ntmps42
 go_wp2_with (go_at_call 60; (with_reducible refine (index_walk a b c d Am cm sl g l A cl _ HG.out HC.out HLN.out).mono ?_); rintro e w2 ⟨q, rfl, h1, _, hb⟩; have h2 := h1 H.out; subst h2; have HB := Aside0.mk hb; clear hb h1)
 go_ret
 exact ⟨rfl, HB.out⟩
/-- A raw write into the slots. -/
def image_After.ix (d : Int) (x : S35) : Int := wrap64 (wrap64 (wrap64 (wrap64 (x.f0 * d) + x.f1) * 2) + x.f2)
def image_After.put (d : Int) (x : S35) (sl : List (List Int)) : Option (List (List Int)) := if 0 ≤ image_After.ix d x ∧ image_After.ix d x < (sl.length : Int) ∧ x.f3.length ≤ 1000000000 then some (sl.set (image_After.ix d x).toNat x.f3) else none
def image_After.puts (d : Int) : List S35 → List (List Int) → Option (List (List Int))
 | [], sl => some sl
 | x :: l, sl => (image_After.put d x sl).bind (image_After.puts d l)
def image_After.f (k : Nat) (a0_0 : Int) (a0_1 : Int) (a0_2 : Int) (a0_3 : Int) (l0_4 : List (List Int)) (l1 : List S35) (a2 : Int) : Option (Int × Int × Int × Int × List (List Int) × Int) :=
 (image_Check.f k a0_0 a0_1 a0_2 a0_3 l0_4).bind fun e => if e = 0 then (if 65536 < l1.length then some (0, 0, 0, 0, [], 20) else if l1.all (mayB a0_0 a0_1 a0_2 a0_3) = true then (if a2 < 0 ∨ (l1.length : Int) < a2 then some (0, 0, 0, 0, [], 2) else (image_twin.f k a0_0 a0_1 a0_2 a0_3 l0_4).bind fun q => (image_After.puts a0_3 (l1.take a2.toNat) q.2.2.2.2).bind fun r => some (q.1, q.2.1, q.2.2.1, q.2.2.2.1, r, 0)) else some (0, 0, 0, 0, [], 80)) else some (0, 0, 0, 0, [], e)
set_option maxHeartbeats 8000000 in
set_option maxRecDepth 100000 in
theorem After_check (k0 : Nat) (a b c d : Int) (Am : Option Addr) (cm : Nat) (sl : List (List Int)) (A : Option Addr) (cl : Nat) (l : List S35) (n : Int) (w : World) (hCm : Kd.C (Kd.slice 5 (Kd.int .u8)) w Am sl.length sl) (hcm : sl.length ≤ cm) (hL : Kd.C k35 w A l.length l) (hcl : l.length ≤ cl) (e0 : Int) (hck : image_Check.f k0 a b c d sl = some e0) (he : e0 ≠ 0) : Calls Try.prog 13 #[.agg #[.int .i64 a, .int .i64 b, .int .i64 c, .int .i64 d, .slice Am sl.length cm], .slice A l.length cl, .int .i64 n] w fun e w' => ∃ v4_ : Value, e = .returned (.tuple #[.agg #[.int .i64 0, .int .i64 0, .int .i64 0, .int .i64 0, v4_], .int .i64 e0]) ∧ Kd.S (Kd.slice 5 (Kd.int .u8)) 33 w' w.heap.size (fun _ => True) v4_ [] ∧ Below w.heap.size w w' := by
 have hu27 := Try.underlying27
 have hu24 := Try.underlying24
 have hu35 := Try.underlying35
 have HB := Aside0.mk (Below.refl w.heap.size w)
 have HC := Aside0.mk hCm
 have HCM := Aside0.mk hcm
 have HL := Aside0.mk hL
 have HCL := Aside0.mk hcl
 have HCK := Aside0.mk hck
 have d1 : (e0 == 0) = false := beq_false_of_ne he
 have d2 : (e0 = 0) = False := eq_false he
 clear hck he
 clear hCm hcm hL hcl
 go_enter Try.func13, Try.ntmps13
 have tok1 : True := trivial
 go_wp2_with (first | (have _ := tok1; (with_reducible refine gate_dst (N := 3) rfl ?_); refine box_event rfl (N := 3) rfl (cs := #[.int .i64 a, .int .i64 b, .int .i64 c, .int .i64 d, .slice Am sl.length cm]) (t := 27) (by go_simp; try rfl) ?_; intro g3 hg w1 hbox hb; have hs : Below w.heap.size w w1 := below_step (by repeat (first | exact Below.refl _ _ | apply below_alloc | apply pw_below_drewN | apply below_drew1)) hb; have SZ1 := Aside0.mk (show w.heap.size ≤ g3 ∧ g3 < w1.heap.size from ⟨by rw [hg]; exact (below_size (by repeat (first | exact Below.refl _ _ | apply below_alloc | apply pw_below_drewN | apply below_drew1))), blk_lt hbox⟩); replace HB := Aside0.mk (below_step HB.out hs); have BKg3 := Aside0.mk hbox; clear hb hbox hg hs; obtain ⟨hcg3_0, hcg3_1, hcg3_2, hcg3_3, hcg3_4, hfg3_0, hfg3_1, hfg3_2, hfg3_3, hfg3_4⟩ := cs5 BKg3.out; clear tok1; have tok2 : True := trivial) | (have _ := tok2; (with_reducible refine gate_dst (N := 6) rfl ?_); refine box_event rfl (N := 6) rfl (cs := #[.int .i64 0, .int .i64 0, .int .i64 0, .int .i64 0, .slice none 0 0]) (t := 27) (by go_simp; try rfl) ?_; intro g6 hg w2 hbox hb; have hs : Below w1.heap.size w1 w2 := below_step (by repeat (first | exact Below.refl _ _ | apply below_alloc | apply pw_below_drewN | apply below_drew1)) hb; have SZ2 := Aside0.mk (show w1.heap.size ≤ g6 ∧ g6 < w2.heap.size from ⟨by rw [hg]; exact (below_size (by repeat (first | exact Below.refl _ _ | apply below_alloc | apply pw_below_drewN | apply below_drew1))), blk_lt hbox⟩); (try clear hcg3_0 hfg3_0); (try clear hcg3_1 hfg3_1); (try clear hcg3_2 hfg3_2); (try clear hcg3_3 hfg3_3); (try clear hcg3_4 hfg3_4); replace BKg3 := Aside0.mk (blk_below BKg3.out hs); replace HB := Aside0.mk (below_step HB.out hs); have hneg3_g6 : g3 ≠ g6 := (by have := SZ2.out; have := SZ1.out; omega); have hneg6_g3 : g6 ≠ g3 := hneg3_g6.symm; have BKg6 := Aside0.mk hbox; clear hb hbox hg hs; obtain ⟨hcg3_0, hcg3_1, hcg3_2, hcg3_3, hcg3_4, hfg3_0, hfg3_1, hfg3_2, hfg3_3, hfg3_4⟩ := cs5 BKg3.out; obtain ⟨hcg6_0, hcg6_1, hcg6_2, hcg6_3, hcg6_4, hfg6_0, hfg6_1, hfg6_2, hfg6_3, hfg6_4⟩ := cs5 BKg6.out; clear tok2; have tok3 : True := trivial) | (have _ := tok3; go_at_call 17; (with_reducible refine (image_Check.calls k0 a b c d Am cm sl e0 _ ?s1 HCM.out HCK.out).mono ?_); (case s1 => exact Kd.C_below HC.out (by repeat (first | exact HB.out | apply below_alloc | apply pw_below_drewN | apply below_drew1))); rintro e w3 ⟨rfl, hb⟩; (try clear hcg3_0 hfg3_0); (try clear hcg3_1 hfg3_1); (try clear hcg3_2 hfg3_2); (try clear hcg3_3 hfg3_3); (try clear hcg3_4 hfg3_4); (try clear hcg6_0 hfg6_0); (try clear hcg6_1 hfg6_1); (try clear hcg6_2 hfg6_2); (try clear hcg6_3 hfg6_3); (try clear hcg6_4 hfg6_4); have hs : Below w2.heap.size w2 w3 := below_step (by repeat (first | exact Below.refl _ _ | apply below_alloc | apply pw_below_drewN | apply below_drew1)) hb; have hl : w2.heap.size ≤ _ := below_size (w := w2) (by repeat (first | exact Below.refl _ _ | apply below_alloc | apply pw_below_drewN | apply below_drew1)); have SZ3 := Aside0.mk (show w2.heap.size ≤ w3.heap.size from hs.size); replace BKg3 := Aside0.mk (blk_below BKg3.out hs); replace BKg6 := Aside0.mk (blk_below BKg6.out hs); replace HB := Aside0.mk (below_step HB.out hs); clear hb hs; (try clear hl); obtain ⟨hcg3_0, hcg3_1, hcg3_2, hcg3_3, hcg3_4, hfg3_0, hfg3_1, hfg3_2, hfg3_3, hfg3_4⟩ := cs5 BKg3.out; obtain ⟨hcg6_0, hcg6_1, hcg6_2, hcg6_3, hcg6_4, hfg6_0, hfg6_1, hfg6_2, hfg6_3, hfg6_4⟩ := cs5 BKg6.out; clear tok3))
 (try clear hcg3_0 hfg3_0)
 (try clear hcg3_1 hfg3_1)
 (try clear hcg3_2 hfg3_2)
 (try clear hcg3_3 hfg3_3)
 (try clear hcg3_4 hfg3_4)
 (try clear hcg6_0 hfg6_0)
 (try clear hcg6_1 hfg6_1)
 (try clear hcg6_2 hfg6_2)
 (try clear hcg6_3 hfg6_3)
 (try clear hcg6_4 hfg6_4)
 replace BKg3 := Aside0.mk (blk_far BKg3.out (p := ⟨g6, 0, none⟩) (by show _ ≠ _; have := SZ1.out; have := SZ2.out; have := SZ3.out; omega) (.int .i64 0))
 replace BKg6 := Aside0.mk (blk_put BKg6.out 0 (.int .i64 0) rfl)
 replace HB := Aside0.mk (below_set HB.out (by have := SZ1.out; have := SZ2.out; have := SZ3.out; omega : w.heap.size ≤ g6) (j := 0) (v := .int .i64 0))
 replace BKg3 := Aside0.mk (blk_far BKg3.out (p := ⟨g6, 1, none⟩) (by show _ ≠ _; have := SZ1.out; have := SZ2.out; have := SZ3.out; omega) (.int .i64 0))
 replace BKg6 := Aside0.mk (blk_put BKg6.out 1 (.int .i64 0) rfl)
 replace HB := Aside0.mk (below_set HB.out (by have := SZ1.out; have := SZ2.out; have := SZ3.out; omega : w.heap.size ≤ g6) (j := 1) (v := .int .i64 0))
 replace BKg3 := Aside0.mk (blk_far BKg3.out (p := ⟨g6, 2, none⟩) (by show _ ≠ _; have := SZ1.out; have := SZ2.out; have := SZ3.out; omega) (.int .i64 0))
 replace BKg6 := Aside0.mk (blk_put BKg6.out 2 (.int .i64 0) rfl)
 replace HB := Aside0.mk (below_set HB.out (by have := SZ1.out; have := SZ2.out; have := SZ3.out; omega : w.heap.size ≤ g6) (j := 2) (v := .int .i64 0))
 replace BKg3 := Aside0.mk (blk_far BKg3.out (p := ⟨g6, 3, none⟩) (by show _ ≠ _; have := SZ1.out; have := SZ2.out; have := SZ3.out; omega) (.int .i64 0))
 replace BKg6 := Aside0.mk (blk_put BKg6.out 3 (.int .i64 0) rfl)
 replace HB := Aside0.mk (below_set HB.out (by have := SZ1.out; have := SZ2.out; have := SZ3.out; omega : w.heap.size ≤ g6) (j := 3) (v := .int .i64 0))
 replace BKg3 := Aside0.mk (blk_far BKg3.out (p := ⟨g6, 4, none⟩) (by show _ ≠ _; have := SZ1.out; have := SZ2.out; have := SZ3.out; omega) (.slice none 0 0))
 replace BKg6 := Aside0.mk (blk_put BKg6.out 4 (.slice none 0 0) rfl)
 replace HB := Aside0.mk (below_set HB.out (by have := SZ1.out; have := SZ2.out; have := SZ3.out; omega : w.heap.size ≤ g6) (j := 4) (v := .slice none 0 0))
 have SZ4 := Aside0.mk (show w3.heap.size ≤ (((((w3.setCell ⟨g6, 0, none⟩ (.int .i64 0)).setCell ⟨g6, 1, none⟩ (.int .i64 0)).setCell ⟨g6, 2, none⟩ (.int .i64 0)).setCell ⟨g6, 3, none⟩ (.int .i64 0)).setCell ⟨g6, 4, none⟩ (.slice none 0 0)).heap.size from by simp [World.setCell])
 generalize (((((w3.setCell ⟨g6, 0, none⟩ (.int .i64 0)).setCell ⟨g6, 1, none⟩ (.int .i64 0)).setCell ⟨g6, 2, none⟩ (.int .i64 0)).setCell ⟨g6, 3, none⟩ (.int .i64 0)).setCell ⟨g6, 4, none⟩ (.slice none 0 0)) = w4 at HB BKg3 BKg6 SZ4 ⊢
 obtain ⟨hcg3_0, hcg3_1, hcg3_2, hcg3_3, hcg3_4, hfg3_0, hfg3_1, hfg3_2, hfg3_3, hfg3_4⟩ := cs5 BKg3.out; obtain ⟨hcg6_0, hcg6_1, hcg6_2, hcg6_3, hcg6_4, hfg6_0, hfg6_1, hfg6_2, hfg6_3, hfg6_4⟩ := cs5 BKg6.out
 refine bodyPost_ret (results_ct rfl _ _ g6 27 #[.int .i64 0, .int .i64 0, .int .i64 0, .int .i64 0, .slice none 0 0] (0, 0) _ rfl (by first | exact BKg6.out | (refine sO ?_; exact BKg6.out)) hu27 rfl (by kernel_rfl)) rfl ?_
 exact ⟨_, rfl, Kd.S_nil _ _ _ _ _, (by repeat (first | exact HB.out | apply below_alloc | apply pw_below_drewN | apply below_drew1))⟩
set_option maxHeartbeats 8000000 in
set_option maxRecDepth 100000 in
theorem After_long (k0 : Nat) (a b c d : Int) (Am : Option Addr) (cm : Nat) (sl : List (List Int)) (A : Option Addr) (cl : Nat) (l : List S35) (n : Int) (w : World) (hCm : Kd.C (Kd.slice 5 (Kd.int .u8)) w Am sl.length sl) (hcm : sl.length ≤ cm) (hL : Kd.C k35 w A l.length l) (hcl : l.length ≤ cl) (hck : image_Check.f k0 a b c d sl = some 0) (hl : 65536 < l.length) : Calls Try.prog 13 #[.agg #[.int .i64 a, .int .i64 b, .int .i64 c, .int .i64 d, .slice Am sl.length cm], .slice A l.length cl, .int .i64 n] w fun e w' => ∃ v4_ : Value, e = .returned (.tuple #[.agg #[.int .i64 0, .int .i64 0, .int .i64 0, .int .i64 0, v4_], .int .i64 20]) ∧ Kd.S (Kd.slice 5 (Kd.int .u8)) 33 w' w.heap.size (fun _ => True) v4_ [] ∧ Below w.heap.size w w' := by
 have hu27 := Try.underlying27
 have hu24 := Try.underlying24
 have hu35 := Try.underlying35
 have HB := Aside0.mk (Below.refl w.heap.size w)
 have HC := Aside0.mk hCm
 have HCM := Aside0.mk hcm
 have HL := Aside0.mk hL
 have HCL := Aside0.mk hcl
 have HCK := Aside0.mk hck
 clear hck
 have d1 : decide ((65536 : Int) < (l.length : Int)) = true := decide_eq_true (by omega)
 have d2 : decide (65536 < l.length) = true := decide_eq_true hl
 clear hl
 clear hCm hcm hL hcl
 go_enter Try.func13, Try.ntmps13
 have tok1 : True := trivial
 go_wp2_with (first | (have _ := tok1; (with_reducible refine gate_dst (N := 3) rfl ?_); refine box_event rfl (N := 3) rfl (cs := #[.int .i64 a, .int .i64 b, .int .i64 c, .int .i64 d, .slice Am sl.length cm]) (t := 27) (by go_simp; try rfl) ?_; intro g3 hg w1 hbox hb; have hs : Below w.heap.size w w1 := below_step (by repeat (first | exact Below.refl _ _ | apply below_alloc | apply pw_below_drewN | apply below_drew1)) hb; have SZ1 := Aside0.mk (show w.heap.size ≤ g3 ∧ g3 < w1.heap.size from ⟨by rw [hg]; exact (below_size (by repeat (first | exact Below.refl _ _ | apply below_alloc | apply pw_below_drewN | apply below_drew1))), blk_lt hbox⟩); replace HB := Aside0.mk (below_step HB.out hs); have BKg3 := Aside0.mk hbox; clear hb hbox hg hs; obtain ⟨hcg3_0, hcg3_1, hcg3_2, hcg3_3, hcg3_4, hfg3_0, hfg3_1, hfg3_2, hfg3_3, hfg3_4⟩ := cs5 BKg3.out; clear tok1; have tok2 : True := trivial) | (have _ := tok2; (with_reducible refine gate_dst (N := 6) rfl ?_); refine box_event rfl (N := 6) rfl (cs := #[.int .i64 0, .int .i64 0, .int .i64 0, .int .i64 0, .slice none 0 0]) (t := 27) (by go_simp; try rfl) ?_; intro g6 hg w2 hbox hb; have hs : Below w1.heap.size w1 w2 := below_step (by repeat (first | exact Below.refl _ _ | apply below_alloc | apply pw_below_drewN | apply below_drew1)) hb; have SZ2 := Aside0.mk (show w1.heap.size ≤ g6 ∧ g6 < w2.heap.size from ⟨by rw [hg]; exact (below_size (by repeat (first | exact Below.refl _ _ | apply below_alloc | apply pw_below_drewN | apply below_drew1))), blk_lt hbox⟩); (try clear hcg3_0 hfg3_0); (try clear hcg3_1 hfg3_1); (try clear hcg3_2 hfg3_2); (try clear hcg3_3 hfg3_3); (try clear hcg3_4 hfg3_4); replace BKg3 := Aside0.mk (blk_below BKg3.out hs); replace HB := Aside0.mk (below_step HB.out hs); have hneg3_g6 : g3 ≠ g6 := (by have := SZ2.out; have := SZ1.out; omega); have hneg6_g3 : g6 ≠ g3 := hneg3_g6.symm; have BKg6 := Aside0.mk hbox; clear hb hbox hg hs; obtain ⟨hcg3_0, hcg3_1, hcg3_2, hcg3_3, hcg3_4, hfg3_0, hfg3_1, hfg3_2, hfg3_3, hfg3_4⟩ := cs5 BKg3.out; obtain ⟨hcg6_0, hcg6_1, hcg6_2, hcg6_3, hcg6_4, hfg6_0, hfg6_1, hfg6_2, hfg6_3, hfg6_4⟩ := cs5 BKg6.out; clear tok2; have tok3 : True := trivial) | (have _ := tok3; go_at_call 17; (with_reducible refine (image_Check.calls k0 a b c d Am cm sl 0 _ ?s1 HCM.out HCK.out).mono ?_); (case s1 => exact Kd.C_below HC.out (by repeat (first | exact HB.out | apply below_alloc | apply pw_below_drewN | apply below_drew1))); rintro e w3 ⟨rfl, hb⟩; (try clear hcg3_0 hfg3_0); (try clear hcg3_1 hfg3_1); (try clear hcg3_2 hfg3_2); (try clear hcg3_3 hfg3_3); (try clear hcg3_4 hfg3_4); (try clear hcg6_0 hfg6_0); (try clear hcg6_1 hfg6_1); (try clear hcg6_2 hfg6_2); (try clear hcg6_3 hfg6_3); (try clear hcg6_4 hfg6_4); have hs : Below w2.heap.size w2 w3 := below_step (by repeat (first | exact Below.refl _ _ | apply below_alloc | apply pw_below_drewN | apply below_drew1)) hb; have hl : w2.heap.size ≤ _ := below_size (w := w2) (by repeat (first | exact Below.refl _ _ | apply below_alloc | apply pw_below_drewN | apply below_drew1)); have SZ3 := Aside0.mk (show w2.heap.size ≤ w3.heap.size from hs.size); replace BKg3 := Aside0.mk (blk_below BKg3.out hs); replace BKg6 := Aside0.mk (blk_below BKg6.out hs); replace HB := Aside0.mk (below_step HB.out hs); clear hb hs; (try clear hl); obtain ⟨hcg3_0, hcg3_1, hcg3_2, hcg3_3, hcg3_4, hfg3_0, hfg3_1, hfg3_2, hfg3_3, hfg3_4⟩ := cs5 BKg3.out; obtain ⟨hcg6_0, hcg6_1, hcg6_2, hcg6_3, hcg6_4, hfg6_0, hfg6_1, hfg6_2, hfg6_3, hfg6_4⟩ := cs5 BKg6.out; clear tok3))
 (try clear hcg3_0 hfg3_0)
 (try clear hcg3_1 hfg3_1)
 (try clear hcg3_2 hfg3_2)
 (try clear hcg3_3 hfg3_3)
 (try clear hcg3_4 hfg3_4)
 (try clear hcg6_0 hfg6_0)
 (try clear hcg6_1 hfg6_1)
 (try clear hcg6_2 hfg6_2)
 (try clear hcg6_3 hfg6_3)
 (try clear hcg6_4 hfg6_4)
 replace BKg3 := Aside0.mk (blk_far BKg3.out (p := ⟨g6, 0, none⟩) (by show _ ≠ _; have := SZ1.out; have := SZ2.out; have := SZ3.out; omega) (.int .i64 0))
 replace BKg6 := Aside0.mk (blk_put BKg6.out 0 (.int .i64 0) rfl)
 replace HB := Aside0.mk (below_set HB.out (by have := SZ1.out; have := SZ2.out; have := SZ3.out; omega : w.heap.size ≤ g6) (j := 0) (v := .int .i64 0))
 replace BKg3 := Aside0.mk (blk_far BKg3.out (p := ⟨g6, 1, none⟩) (by show _ ≠ _; have := SZ1.out; have := SZ2.out; have := SZ3.out; omega) (.int .i64 0))
 replace BKg6 := Aside0.mk (blk_put BKg6.out 1 (.int .i64 0) rfl)
 replace HB := Aside0.mk (below_set HB.out (by have := SZ1.out; have := SZ2.out; have := SZ3.out; omega : w.heap.size ≤ g6) (j := 1) (v := .int .i64 0))
 replace BKg3 := Aside0.mk (blk_far BKg3.out (p := ⟨g6, 2, none⟩) (by show _ ≠ _; have := SZ1.out; have := SZ2.out; have := SZ3.out; omega) (.int .i64 0))
 replace BKg6 := Aside0.mk (blk_put BKg6.out 2 (.int .i64 0) rfl)
 replace HB := Aside0.mk (below_set HB.out (by have := SZ1.out; have := SZ2.out; have := SZ3.out; omega : w.heap.size ≤ g6) (j := 2) (v := .int .i64 0))
 replace BKg3 := Aside0.mk (blk_far BKg3.out (p := ⟨g6, 3, none⟩) (by show _ ≠ _; have := SZ1.out; have := SZ2.out; have := SZ3.out; omega) (.int .i64 0))
 replace BKg6 := Aside0.mk (blk_put BKg6.out 3 (.int .i64 0) rfl)
 replace HB := Aside0.mk (below_set HB.out (by have := SZ1.out; have := SZ2.out; have := SZ3.out; omega : w.heap.size ≤ g6) (j := 3) (v := .int .i64 0))
 replace BKg3 := Aside0.mk (blk_far BKg3.out (p := ⟨g6, 4, none⟩) (by show _ ≠ _; have := SZ1.out; have := SZ2.out; have := SZ3.out; omega) (.slice none 0 0))
 replace BKg6 := Aside0.mk (blk_put BKg6.out 4 (.slice none 0 0) rfl)
 replace HB := Aside0.mk (below_set HB.out (by have := SZ1.out; have := SZ2.out; have := SZ3.out; omega : w.heap.size ≤ g6) (j := 4) (v := .slice none 0 0))
 have SZ4 := Aside0.mk (show w3.heap.size ≤ (((((w3.setCell ⟨g6, 0, none⟩ (.int .i64 0)).setCell ⟨g6, 1, none⟩ (.int .i64 0)).setCell ⟨g6, 2, none⟩ (.int .i64 0)).setCell ⟨g6, 3, none⟩ (.int .i64 0)).setCell ⟨g6, 4, none⟩ (.slice none 0 0)).heap.size from by simp [World.setCell])
 generalize (((((w3.setCell ⟨g6, 0, none⟩ (.int .i64 0)).setCell ⟨g6, 1, none⟩ (.int .i64 0)).setCell ⟨g6, 2, none⟩ (.int .i64 0)).setCell ⟨g6, 3, none⟩ (.int .i64 0)).setCell ⟨g6, 4, none⟩ (.slice none 0 0)) = w4 at HB BKg3 BKg6 SZ4 ⊢
 obtain ⟨hcg3_0, hcg3_1, hcg3_2, hcg3_3, hcg3_4, hfg3_0, hfg3_1, hfg3_2, hfg3_3, hfg3_4⟩ := cs5 BKg3.out; obtain ⟨hcg6_0, hcg6_1, hcg6_2, hcg6_3, hcg6_4, hfg6_0, hfg6_1, hfg6_2, hfg6_3, hfg6_4⟩ := cs5 BKg6.out
 refine bodyPost_ret (results_ct rfl _ _ g6 27 #[.int .i64 0, .int .i64 0, .int .i64 0, .int .i64 0, .slice none 0 0] (0, 0) _ rfl (by first | exact BKg6.out | (refine sO ?_; exact BKg6.out)) hu27 rfl (by kernel_rfl)) rfl ?_
 exact ⟨_, rfl, Kd.S_nil _ _ _ _ _, (by repeat (first | exact HB.out | apply below_alloc | apply pw_below_drewN | apply below_drew1))⟩
set_option maxHeartbeats 8000000 in
set_option maxRecDepth 100000 in
theorem After_may (k0 : Nat) (a b c d : Int) (Am : Option Addr) (cm : Nat) (sl : List (List Int)) (A : Option Addr) (cl : Nat) (l : List S35) (n : Int) (w : World) (hCm : Kd.C (Kd.slice 5 (Kd.int .u8)) w Am sl.length sl) (hcm : sl.length ≤ cm) (hL : Kd.C k35 w A l.length l) (hcl : l.length ≤ cl) (hck : image_Check.f k0 a b c d sl = some 0) (hl : l.length ≤ 65536) (hm : l.all (mayB a b c d) = false) : Calls Try.prog 13 #[.agg #[.int .i64 a, .int .i64 b, .int .i64 c, .int .i64 d, .slice Am sl.length cm], .slice A l.length cl, .int .i64 n] w fun e w' => ∃ v4_ : Value, e = .returned (.tuple #[.agg #[.int .i64 0, .int .i64 0, .int .i64 0, .int .i64 0, v4_], .int .i64 80]) ∧ Kd.S (Kd.slice 5 (Kd.int .u8)) 33 w' w.heap.size (fun _ => True) v4_ [] ∧ Below w.heap.size w w' := by
 have hu27 := Try.underlying27
 have hu24 := Try.underlying24
 have hu35 := Try.underlying35
 have HB := Aside0.mk (Below.refl w.heap.size w)
 have HC := Aside0.mk hCm
 have HCM := Aside0.mk hcm
 have HL := Aside0.mk hL
 have HCL := Aside0.mk hcl
 have HCK := Aside0.mk hck
 clear hck
 have HLN := Aside0.mk hl
 have d1 : decide ((65536 : Int) < (l.length : Int)) = false := decide_eq_false (by omega)
 have d2 : decide (65536 < l.length) = false := decide_eq_false (by omega)
 clear hl
 have e1 : (!l.all (mayB a b c d)) = true := by rw [hm]; rfl
 clear hm
 clear hCm hcm hL hcl
 go_enter Try.func13, Try.ntmps13
 have tok1 : True := trivial
 go_wp2_with (first | (have _ := tok1; (with_reducible refine gate_dst (N := 3) rfl ?_); refine box_event rfl (N := 3) rfl (cs := #[.int .i64 a, .int .i64 b, .int .i64 c, .int .i64 d, .slice Am sl.length cm]) (t := 27) (by go_simp; try rfl) ?_; intro g3 hg w1 hbox hb; have hs : Below w.heap.size w w1 := below_step (by repeat (first | exact Below.refl _ _ | apply below_alloc | apply pw_below_drewN | apply below_drew1)) hb; have SZ1 := Aside0.mk (show w.heap.size ≤ g3 ∧ g3 < w1.heap.size from ⟨by rw [hg]; exact (below_size (by repeat (first | exact Below.refl _ _ | apply below_alloc | apply pw_below_drewN | apply below_drew1))), blk_lt hbox⟩); replace HB := Aside0.mk (below_step HB.out hs); have BKg3 := Aside0.mk hbox; clear hb hbox hg hs; obtain ⟨hcg3_0, hcg3_1, hcg3_2, hcg3_3, hcg3_4, hfg3_0, hfg3_1, hfg3_2, hfg3_3, hfg3_4⟩ := cs5 BKg3.out; clear tok1; have tok2 : True := trivial) | (have _ := tok2; (with_reducible refine gate_dst (N := 6) rfl ?_); refine box_event rfl (N := 6) rfl (cs := #[.int .i64 0, .int .i64 0, .int .i64 0, .int .i64 0, .slice none 0 0]) (t := 27) (by go_simp; try rfl) ?_; intro g6 hg w2 hbox hb; have hs : Below w1.heap.size w1 w2 := below_step (by repeat (first | exact Below.refl _ _ | apply below_alloc | apply pw_below_drewN | apply below_drew1)) hb; have SZ2 := Aside0.mk (show w1.heap.size ≤ g6 ∧ g6 < w2.heap.size from ⟨by rw [hg]; exact (below_size (by repeat (first | exact Below.refl _ _ | apply below_alloc | apply pw_below_drewN | apply below_drew1))), blk_lt hbox⟩); (try clear hcg3_0 hfg3_0); (try clear hcg3_1 hfg3_1); (try clear hcg3_2 hfg3_2); (try clear hcg3_3 hfg3_3); (try clear hcg3_4 hfg3_4); replace BKg3 := Aside0.mk (blk_below BKg3.out hs); replace HB := Aside0.mk (below_step HB.out hs); have hneg3_g6 : g3 ≠ g6 := (by have := SZ2.out; have := SZ1.out; omega); have hneg6_g3 : g6 ≠ g3 := hneg3_g6.symm; have BKg6 := Aside0.mk hbox; clear hb hbox hg hs; obtain ⟨hcg3_0, hcg3_1, hcg3_2, hcg3_3, hcg3_4, hfg3_0, hfg3_1, hfg3_2, hfg3_3, hfg3_4⟩ := cs5 BKg3.out; obtain ⟨hcg6_0, hcg6_1, hcg6_2, hcg6_3, hcg6_4, hfg6_0, hfg6_1, hfg6_2, hfg6_3, hfg6_4⟩ := cs5 BKg6.out; clear tok2; have tok3 : True := trivial) | (have _ := tok3; go_at_call 17; (with_reducible refine (image_Check.calls k0 a b c d Am cm sl 0 _ ?s1 HCM.out HCK.out).mono ?_); (case s1 => exact Kd.C_below HC.out (by repeat (first | exact HB.out | apply below_alloc | apply pw_below_drewN | apply below_drew1))); rintro e w3 ⟨rfl, hb⟩; (try clear hcg3_0 hfg3_0); (try clear hcg3_1 hfg3_1); (try clear hcg3_2 hfg3_2); (try clear hcg3_3 hfg3_3); (try clear hcg3_4 hfg3_4); (try clear hcg6_0 hfg6_0); (try clear hcg6_1 hfg6_1); (try clear hcg6_2 hfg6_2); (try clear hcg6_3 hfg6_3); (try clear hcg6_4 hfg6_4); have hs : Below w2.heap.size w2 w3 := below_step (by repeat (first | exact Below.refl _ _ | apply below_alloc | apply pw_below_drewN | apply below_drew1)) hb; have hl : w2.heap.size ≤ _ := below_size (w := w2) (by repeat (first | exact Below.refl _ _ | apply below_alloc | apply pw_below_drewN | apply below_drew1)); have SZ3 := Aside0.mk (show w2.heap.size ≤ w3.heap.size from hs.size); replace BKg3 := Aside0.mk (blk_below BKg3.out hs); replace BKg6 := Aside0.mk (blk_below BKg6.out hs); replace HB := Aside0.mk (below_step HB.out hs); clear hb hs; (try clear hl); obtain ⟨hcg3_0, hcg3_1, hcg3_2, hcg3_3, hcg3_4, hfg3_0, hfg3_1, hfg3_2, hfg3_3, hfg3_4⟩ := cs5 BKg3.out; obtain ⟨hcg6_0, hcg6_1, hcg6_2, hcg6_3, hcg6_4, hfg6_0, hfg6_1, hfg6_2, hfg6_3, hfg6_4⟩ := cs5 BKg6.out; clear tok3; have tok4 : True := trivial) | (have _ := tok4; go_at_call 42; (with_reducible refine (contains_walk a b c d Am cm sl g3 l A cl _ (by first | exact BKg3.out | (refine sO ?_; exact BKg3.out)) ?s1 (by have := HLN.out; omega)).mono ?_); (case s1 => exact Kd.C_below HL.out (by repeat (first | exact HB.out | apply below_alloc | apply pw_below_drewN | apply below_drew1))); rintro e w4 ⟨rfl, hb⟩; (try clear hcg3_0 hfg3_0); (try clear hcg3_1 hfg3_1); (try clear hcg3_2 hfg3_2); (try clear hcg3_3 hfg3_3); (try clear hcg3_4 hfg3_4); (try clear hcg6_0 hfg6_0); (try clear hcg6_1 hfg6_1); (try clear hcg6_2 hfg6_2); (try clear hcg6_3 hfg6_3); (try clear hcg6_4 hfg6_4); have hs : Below w3.heap.size w3 w4 := below_step (by repeat (first | exact Below.refl _ _ | apply below_alloc | apply pw_below_drewN | apply below_drew1)) hb; have hl : w3.heap.size ≤ _ := below_size (w := w3) (by repeat (first | exact Below.refl _ _ | apply below_alloc | apply pw_below_drewN | apply below_drew1)); have SZ4 := Aside0.mk (show w3.heap.size ≤ w4.heap.size from hs.size); replace BKg3 := Aside0.mk (blk_below BKg3.out hs); replace BKg6 := Aside0.mk (blk_below BKg6.out hs); replace HB := Aside0.mk (below_step HB.out hs); rw [e1]; clear hb hs; (try clear hl); obtain ⟨hcg3_0, hcg3_1, hcg3_2, hcg3_3, hcg3_4, hfg3_0, hfg3_1, hfg3_2, hfg3_3, hfg3_4⟩ := cs5 BKg3.out; obtain ⟨hcg6_0, hcg6_1, hcg6_2, hcg6_3, hcg6_4, hfg6_0, hfg6_1, hfg6_2, hfg6_3, hfg6_4⟩ := cs5 BKg6.out; clear tok4))
 (try clear hcg3_0 hfg3_0)
 (try clear hcg3_1 hfg3_1)
 (try clear hcg3_2 hfg3_2)
 (try clear hcg3_3 hfg3_3)
 (try clear hcg3_4 hfg3_4)
 (try clear hcg6_0 hfg6_0)
 (try clear hcg6_1 hfg6_1)
 (try clear hcg6_2 hfg6_2)
 (try clear hcg6_3 hfg6_3)
 (try clear hcg6_4 hfg6_4)
 replace BKg3 := Aside0.mk (blk_far BKg3.out (p := ⟨g6, 0, none⟩) (by show _ ≠ _; have := SZ1.out; have := SZ2.out; have := SZ3.out; have := SZ4.out; omega) (.int .i64 0))
 replace BKg6 := Aside0.mk (blk_put BKg6.out 0 (.int .i64 0) rfl)
 replace HB := Aside0.mk (below_set HB.out (by have := SZ1.out; have := SZ2.out; have := SZ3.out; have := SZ4.out; omega : w.heap.size ≤ g6) (j := 0) (v := .int .i64 0))
 replace BKg3 := Aside0.mk (blk_far BKg3.out (p := ⟨g6, 1, none⟩) (by show _ ≠ _; have := SZ1.out; have := SZ2.out; have := SZ3.out; have := SZ4.out; omega) (.int .i64 0))
 replace BKg6 := Aside0.mk (blk_put BKg6.out 1 (.int .i64 0) rfl)
 replace HB := Aside0.mk (below_set HB.out (by have := SZ1.out; have := SZ2.out; have := SZ3.out; have := SZ4.out; omega : w.heap.size ≤ g6) (j := 1) (v := .int .i64 0))
 replace BKg3 := Aside0.mk (blk_far BKg3.out (p := ⟨g6, 2, none⟩) (by show _ ≠ _; have := SZ1.out; have := SZ2.out; have := SZ3.out; have := SZ4.out; omega) (.int .i64 0))
 replace BKg6 := Aside0.mk (blk_put BKg6.out 2 (.int .i64 0) rfl)
 replace HB := Aside0.mk (below_set HB.out (by have := SZ1.out; have := SZ2.out; have := SZ3.out; have := SZ4.out; omega : w.heap.size ≤ g6) (j := 2) (v := .int .i64 0))
 replace BKg3 := Aside0.mk (blk_far BKg3.out (p := ⟨g6, 3, none⟩) (by show _ ≠ _; have := SZ1.out; have := SZ2.out; have := SZ3.out; have := SZ4.out; omega) (.int .i64 0))
 replace BKg6 := Aside0.mk (blk_put BKg6.out 3 (.int .i64 0) rfl)
 replace HB := Aside0.mk (below_set HB.out (by have := SZ1.out; have := SZ2.out; have := SZ3.out; have := SZ4.out; omega : w.heap.size ≤ g6) (j := 3) (v := .int .i64 0))
 replace BKg3 := Aside0.mk (blk_far BKg3.out (p := ⟨g6, 4, none⟩) (by show _ ≠ _; have := SZ1.out; have := SZ2.out; have := SZ3.out; have := SZ4.out; omega) (.slice none 0 0))
 replace BKg6 := Aside0.mk (blk_put BKg6.out 4 (.slice none 0 0) rfl)
 replace HB := Aside0.mk (below_set HB.out (by have := SZ1.out; have := SZ2.out; have := SZ3.out; have := SZ4.out; omega : w.heap.size ≤ g6) (j := 4) (v := .slice none 0 0))
 have SZ5 := Aside0.mk (show w4.heap.size ≤ (((((w4.setCell ⟨g6, 0, none⟩ (.int .i64 0)).setCell ⟨g6, 1, none⟩ (.int .i64 0)).setCell ⟨g6, 2, none⟩ (.int .i64 0)).setCell ⟨g6, 3, none⟩ (.int .i64 0)).setCell ⟨g6, 4, none⟩ (.slice none 0 0)).heap.size from by simp [World.setCell])
 generalize (((((w4.setCell ⟨g6, 0, none⟩ (.int .i64 0)).setCell ⟨g6, 1, none⟩ (.int .i64 0)).setCell ⟨g6, 2, none⟩ (.int .i64 0)).setCell ⟨g6, 3, none⟩ (.int .i64 0)).setCell ⟨g6, 4, none⟩ (.slice none 0 0)) = w5 at HB BKg3 BKg6 SZ5 ⊢
 obtain ⟨hcg3_0, hcg3_1, hcg3_2, hcg3_3, hcg3_4, hfg3_0, hfg3_1, hfg3_2, hfg3_3, hfg3_4⟩ := cs5 BKg3.out; obtain ⟨hcg6_0, hcg6_1, hcg6_2, hcg6_3, hcg6_4, hfg6_0, hfg6_1, hfg6_2, hfg6_3, hfg6_4⟩ := cs5 BKg6.out
 refine bodyPost_ret (results_ct rfl _ _ g6 27 #[.int .i64 0, .int .i64 0, .int .i64 0, .int .i64 0, .slice none 0 0] (0, 0) _ rfl (by first | exact BKg6.out | (refine sO ?_; exact BKg6.out)) hu27 rfl (by kernel_rfl)) rfl ?_
 exact ⟨_, rfl, Kd.S_nil _ _ _ _ _, (by repeat (first | exact HB.out | apply below_alloc | apply pw_below_drewN | apply below_drew1))⟩
set_option maxHeartbeats 8000000 in
set_option maxRecDepth 100000 in
theorem After_less (k0 : Nat) (a b c d : Int) (Am : Option Addr) (cm : Nat) (sl : List (List Int)) (A : Option Addr) (cl : Nat) (l : List S35) (n : Int) (w : World) (hCm : Kd.C (Kd.slice 5 (Kd.int .u8)) w Am sl.length sl) (hcm : sl.length ≤ cm) (hL : Kd.C k35 w A l.length l) (hcl : l.length ≤ cl) (hck : image_Check.f k0 a b c d sl = some 0) (hl : l.length ≤ 65536) (hm : l.all (mayB a b c d) = true) (hn : n < 0) : Calls Try.prog 13 #[.agg #[.int .i64 a, .int .i64 b, .int .i64 c, .int .i64 d, .slice Am sl.length cm], .slice A l.length cl, .int .i64 n] w fun e w' => ∃ v4_ : Value, e = .returned (.tuple #[.agg #[.int .i64 0, .int .i64 0, .int .i64 0, .int .i64 0, v4_], .int .i64 2]) ∧ Kd.S (Kd.slice 5 (Kd.int .u8)) 33 w' w.heap.size (fun _ => True) v4_ [] ∧ Below w.heap.size w w' := by
 have hu27 := Try.underlying27
 have hu24 := Try.underlying24
 have hu35 := Try.underlying35
 have HB := Aside0.mk (Below.refl w.heap.size w)
 have HC := Aside0.mk hCm
 have HCM := Aside0.mk hcm
 have HL := Aside0.mk hL
 have HCL := Aside0.mk hcl
 have HCK := Aside0.mk hck
 clear hck
 have HLN := Aside0.mk hl
 have d1 : decide ((65536 : Int) < (l.length : Int)) = false := decide_eq_false (by omega)
 have d2 : decide (65536 < l.length) = false := decide_eq_false (by omega)
 clear hl
 have e1 : (!l.all (mayB a b c d)) = false := by rw [hm]; rfl
 clear hm
 have d3 : decide (n < 0) = true := decide_eq_true hn
 clear hn
 clear hCm hcm hL hcl
 go_enter Try.func13, Try.ntmps13
 have tok1 : True := trivial
 go_wp2_with (first | (have _ := tok1; (with_reducible refine gate_dst (N := 3) rfl ?_); refine box_event rfl (N := 3) rfl (cs := #[.int .i64 a, .int .i64 b, .int .i64 c, .int .i64 d, .slice Am sl.length cm]) (t := 27) (by go_simp; try rfl) ?_; intro g3 hg w1 hbox hb; have hs : Below w.heap.size w w1 := below_step (by repeat (first | exact Below.refl _ _ | apply below_alloc | apply pw_below_drewN | apply below_drew1)) hb; have SZ1 := Aside0.mk (show w.heap.size ≤ g3 ∧ g3 < w1.heap.size from ⟨by rw [hg]; exact (below_size (by repeat (first | exact Below.refl _ _ | apply below_alloc | apply pw_below_drewN | apply below_drew1))), blk_lt hbox⟩); replace HB := Aside0.mk (below_step HB.out hs); have BKg3 := Aside0.mk hbox; clear hb hbox hg hs; obtain ⟨hcg3_0, hcg3_1, hcg3_2, hcg3_3, hcg3_4, hfg3_0, hfg3_1, hfg3_2, hfg3_3, hfg3_4⟩ := cs5 BKg3.out; clear tok1; have tok2 : True := trivial) | (have _ := tok2; (with_reducible refine gate_dst (N := 6) rfl ?_); refine box_event rfl (N := 6) rfl (cs := #[.int .i64 0, .int .i64 0, .int .i64 0, .int .i64 0, .slice none 0 0]) (t := 27) (by go_simp; try rfl) ?_; intro g6 hg w2 hbox hb; have hs : Below w1.heap.size w1 w2 := below_step (by repeat (first | exact Below.refl _ _ | apply below_alloc | apply pw_below_drewN | apply below_drew1)) hb; have SZ2 := Aside0.mk (show w1.heap.size ≤ g6 ∧ g6 < w2.heap.size from ⟨by rw [hg]; exact (below_size (by repeat (first | exact Below.refl _ _ | apply below_alloc | apply pw_below_drewN | apply below_drew1))), blk_lt hbox⟩); (try clear hcg3_0 hfg3_0); (try clear hcg3_1 hfg3_1); (try clear hcg3_2 hfg3_2); (try clear hcg3_3 hfg3_3); (try clear hcg3_4 hfg3_4); replace BKg3 := Aside0.mk (blk_below BKg3.out hs); replace HB := Aside0.mk (below_step HB.out hs); have hneg3_g6 : g3 ≠ g6 := (by have := SZ2.out; have := SZ1.out; omega); have hneg6_g3 : g6 ≠ g3 := hneg3_g6.symm; have BKg6 := Aside0.mk hbox; clear hb hbox hg hs; obtain ⟨hcg3_0, hcg3_1, hcg3_2, hcg3_3, hcg3_4, hfg3_0, hfg3_1, hfg3_2, hfg3_3, hfg3_4⟩ := cs5 BKg3.out; obtain ⟨hcg6_0, hcg6_1, hcg6_2, hcg6_3, hcg6_4, hfg6_0, hfg6_1, hfg6_2, hfg6_3, hfg6_4⟩ := cs5 BKg6.out; clear tok2; have tok3 : True := trivial) | (have _ := tok3; go_at_call 17; (with_reducible refine (image_Check.calls k0 a b c d Am cm sl 0 _ ?s1 HCM.out HCK.out).mono ?_); (case s1 => exact Kd.C_below HC.out (by repeat (first | exact HB.out | apply below_alloc | apply pw_below_drewN | apply below_drew1))); rintro e w3 ⟨rfl, hb⟩; (try clear hcg3_0 hfg3_0); (try clear hcg3_1 hfg3_1); (try clear hcg3_2 hfg3_2); (try clear hcg3_3 hfg3_3); (try clear hcg3_4 hfg3_4); (try clear hcg6_0 hfg6_0); (try clear hcg6_1 hfg6_1); (try clear hcg6_2 hfg6_2); (try clear hcg6_3 hfg6_3); (try clear hcg6_4 hfg6_4); have hs : Below w2.heap.size w2 w3 := below_step (by repeat (first | exact Below.refl _ _ | apply below_alloc | apply pw_below_drewN | apply below_drew1)) hb; have hl : w2.heap.size ≤ _ := below_size (w := w2) (by repeat (first | exact Below.refl _ _ | apply below_alloc | apply pw_below_drewN | apply below_drew1)); have SZ3 := Aside0.mk (show w2.heap.size ≤ w3.heap.size from hs.size); replace BKg3 := Aside0.mk (blk_below BKg3.out hs); replace BKg6 := Aside0.mk (blk_below BKg6.out hs); replace HB := Aside0.mk (below_step HB.out hs); clear hb hs; (try clear hl); obtain ⟨hcg3_0, hcg3_1, hcg3_2, hcg3_3, hcg3_4, hfg3_0, hfg3_1, hfg3_2, hfg3_3, hfg3_4⟩ := cs5 BKg3.out; obtain ⟨hcg6_0, hcg6_1, hcg6_2, hcg6_3, hcg6_4, hfg6_0, hfg6_1, hfg6_2, hfg6_3, hfg6_4⟩ := cs5 BKg6.out; clear tok3; have tok4 : True := trivial) | (have _ := tok4; go_at_call 42; (with_reducible refine (contains_walk a b c d Am cm sl g3 l A cl _ (by first | exact BKg3.out | (refine sO ?_; exact BKg3.out)) ?s1 (by have := HLN.out; omega)).mono ?_); (case s1 => exact Kd.C_below HL.out (by repeat (first | exact HB.out | apply below_alloc | apply pw_below_drewN | apply below_drew1))); rintro e w4 ⟨rfl, hb⟩; (try clear hcg3_0 hfg3_0); (try clear hcg3_1 hfg3_1); (try clear hcg3_2 hfg3_2); (try clear hcg3_3 hfg3_3); (try clear hcg3_4 hfg3_4); (try clear hcg6_0 hfg6_0); (try clear hcg6_1 hfg6_1); (try clear hcg6_2 hfg6_2); (try clear hcg6_3 hfg6_3); (try clear hcg6_4 hfg6_4); have hs : Below w3.heap.size w3 w4 := below_step (by repeat (first | exact Below.refl _ _ | apply below_alloc | apply pw_below_drewN | apply below_drew1)) hb; have hl : w3.heap.size ≤ _ := below_size (w := w3) (by repeat (first | exact Below.refl _ _ | apply below_alloc | apply pw_below_drewN | apply below_drew1)); have SZ4 := Aside0.mk (show w3.heap.size ≤ w4.heap.size from hs.size); replace BKg3 := Aside0.mk (blk_below BKg3.out hs); replace BKg6 := Aside0.mk (blk_below BKg6.out hs); replace HB := Aside0.mk (below_step HB.out hs); rw [e1]; clear hb hs; (try clear hl); obtain ⟨hcg3_0, hcg3_1, hcg3_2, hcg3_3, hcg3_4, hfg3_0, hfg3_1, hfg3_2, hfg3_3, hfg3_4⟩ := cs5 BKg3.out; obtain ⟨hcg6_0, hcg6_1, hcg6_2, hcg6_3, hcg6_4, hfg6_0, hfg6_1, hfg6_2, hfg6_3, hfg6_4⟩ := cs5 BKg6.out; clear tok4))
 (try clear hcg3_0 hfg3_0)
 (try clear hcg3_1 hfg3_1)
 (try clear hcg3_2 hfg3_2)
 (try clear hcg3_3 hfg3_3)
 (try clear hcg3_4 hfg3_4)
 (try clear hcg6_0 hfg6_0)
 (try clear hcg6_1 hfg6_1)
 (try clear hcg6_2 hfg6_2)
 (try clear hcg6_3 hfg6_3)
 (try clear hcg6_4 hfg6_4)
 replace BKg3 := Aside0.mk (blk_far BKg3.out (p := ⟨g6, 0, none⟩) (by show _ ≠ _; have := SZ1.out; have := SZ2.out; have := SZ3.out; have := SZ4.out; omega) (.int .i64 0))
 replace BKg6 := Aside0.mk (blk_put BKg6.out 0 (.int .i64 0) rfl)
 replace HB := Aside0.mk (below_set HB.out (by have := SZ1.out; have := SZ2.out; have := SZ3.out; have := SZ4.out; omega : w.heap.size ≤ g6) (j := 0) (v := .int .i64 0))
 replace BKg3 := Aside0.mk (blk_far BKg3.out (p := ⟨g6, 1, none⟩) (by show _ ≠ _; have := SZ1.out; have := SZ2.out; have := SZ3.out; have := SZ4.out; omega) (.int .i64 0))
 replace BKg6 := Aside0.mk (blk_put BKg6.out 1 (.int .i64 0) rfl)
 replace HB := Aside0.mk (below_set HB.out (by have := SZ1.out; have := SZ2.out; have := SZ3.out; have := SZ4.out; omega : w.heap.size ≤ g6) (j := 1) (v := .int .i64 0))
 replace BKg3 := Aside0.mk (blk_far BKg3.out (p := ⟨g6, 2, none⟩) (by show _ ≠ _; have := SZ1.out; have := SZ2.out; have := SZ3.out; have := SZ4.out; omega) (.int .i64 0))
 replace BKg6 := Aside0.mk (blk_put BKg6.out 2 (.int .i64 0) rfl)
 replace HB := Aside0.mk (below_set HB.out (by have := SZ1.out; have := SZ2.out; have := SZ3.out; have := SZ4.out; omega : w.heap.size ≤ g6) (j := 2) (v := .int .i64 0))
 replace BKg3 := Aside0.mk (blk_far BKg3.out (p := ⟨g6, 3, none⟩) (by show _ ≠ _; have := SZ1.out; have := SZ2.out; have := SZ3.out; have := SZ4.out; omega) (.int .i64 0))
 replace BKg6 := Aside0.mk (blk_put BKg6.out 3 (.int .i64 0) rfl)
 replace HB := Aside0.mk (below_set HB.out (by have := SZ1.out; have := SZ2.out; have := SZ3.out; have := SZ4.out; omega : w.heap.size ≤ g6) (j := 3) (v := .int .i64 0))
 replace BKg3 := Aside0.mk (blk_far BKg3.out (p := ⟨g6, 4, none⟩) (by show _ ≠ _; have := SZ1.out; have := SZ2.out; have := SZ3.out; have := SZ4.out; omega) (.slice none 0 0))
 replace BKg6 := Aside0.mk (blk_put BKg6.out 4 (.slice none 0 0) rfl)
 replace HB := Aside0.mk (below_set HB.out (by have := SZ1.out; have := SZ2.out; have := SZ3.out; have := SZ4.out; omega : w.heap.size ≤ g6) (j := 4) (v := .slice none 0 0))
 have SZ5 := Aside0.mk (show w4.heap.size ≤ (((((w4.setCell ⟨g6, 0, none⟩ (.int .i64 0)).setCell ⟨g6, 1, none⟩ (.int .i64 0)).setCell ⟨g6, 2, none⟩ (.int .i64 0)).setCell ⟨g6, 3, none⟩ (.int .i64 0)).setCell ⟨g6, 4, none⟩ (.slice none 0 0)).heap.size from by simp [World.setCell])
 generalize (((((w4.setCell ⟨g6, 0, none⟩ (.int .i64 0)).setCell ⟨g6, 1, none⟩ (.int .i64 0)).setCell ⟨g6, 2, none⟩ (.int .i64 0)).setCell ⟨g6, 3, none⟩ (.int .i64 0)).setCell ⟨g6, 4, none⟩ (.slice none 0 0)) = w5 at HB BKg3 BKg6 SZ5 ⊢
 obtain ⟨hcg3_0, hcg3_1, hcg3_2, hcg3_3, hcg3_4, hfg3_0, hfg3_1, hfg3_2, hfg3_3, hfg3_4⟩ := cs5 BKg3.out; obtain ⟨hcg6_0, hcg6_1, hcg6_2, hcg6_3, hcg6_4, hfg6_0, hfg6_1, hfg6_2, hfg6_3, hfg6_4⟩ := cs5 BKg6.out
 refine bodyPost_ret (results_ct rfl _ _ g6 27 #[.int .i64 0, .int .i64 0, .int .i64 0, .int .i64 0, .slice none 0 0] (0, 0) _ rfl (by first | exact BKg6.out | (refine sO ?_; exact BKg6.out)) hu27 rfl (by kernel_rfl)) rfl ?_
 exact ⟨_, rfl, Kd.S_nil _ _ _ _ _, (by repeat (first | exact HB.out | apply below_alloc | apply pw_below_drewN | apply below_drew1))⟩
set_option maxHeartbeats 8000000 in
set_option maxRecDepth 100000 in
theorem After_more (k0 : Nat) (a b c d : Int) (Am : Option Addr) (cm : Nat) (sl : List (List Int)) (A : Option Addr) (cl : Nat) (l : List S35) (n : Int) (w : World) (hCm : Kd.C (Kd.slice 5 (Kd.int .u8)) w Am sl.length sl) (hcm : sl.length ≤ cm) (hL : Kd.C k35 w A l.length l) (hcl : l.length ≤ cl) (hck : image_Check.f k0 a b c d sl = some 0) (hl : l.length ≤ 65536) (hm : l.all (mayB a b c d) = true) (hn : (l.length : Int) < n) : Calls Try.prog 13 #[.agg #[.int .i64 a, .int .i64 b, .int .i64 c, .int .i64 d, .slice Am sl.length cm], .slice A l.length cl, .int .i64 n] w fun e w' => ∃ v4_ : Value, e = .returned (.tuple #[.agg #[.int .i64 0, .int .i64 0, .int .i64 0, .int .i64 0, v4_], .int .i64 2]) ∧ Kd.S (Kd.slice 5 (Kd.int .u8)) 33 w' w.heap.size (fun _ => True) v4_ [] ∧ Below w.heap.size w w' := by
 have hu27 := Try.underlying27
 have hu24 := Try.underlying24
 have hu35 := Try.underlying35
 have HB := Aside0.mk (Below.refl w.heap.size w)
 have HC := Aside0.mk hCm
 have HCM := Aside0.mk hcm
 have HL := Aside0.mk hL
 have HCL := Aside0.mk hcl
 have HCK := Aside0.mk hck
 clear hck
 have HLN := Aside0.mk hl
 have d1 : decide ((65536 : Int) < (l.length : Int)) = false := decide_eq_false (by omega)
 have d2 : decide (65536 < l.length) = false := decide_eq_false (by omega)
 clear hl
 have e1 : (!l.all (mayB a b c d)) = false := by rw [hm]; rfl
 clear hm
 have d3 : decide (n < 0) = false := decide_eq_false (by omega)
 have d4 : decide ((l.length : Int) < n) = true := decide_eq_true hn
 clear hn
 clear hCm hcm hL hcl
 go_enter Try.func13, Try.ntmps13
 have tok1 : True := trivial
 go_wp2_with (first | (have _ := tok1; (with_reducible refine gate_dst (N := 3) rfl ?_); refine box_event rfl (N := 3) rfl (cs := #[.int .i64 a, .int .i64 b, .int .i64 c, .int .i64 d, .slice Am sl.length cm]) (t := 27) (by go_simp; try rfl) ?_; intro g3 hg w1 hbox hb; have hs : Below w.heap.size w w1 := below_step (by repeat (first | exact Below.refl _ _ | apply below_alloc | apply pw_below_drewN | apply below_drew1)) hb; have SZ1 := Aside0.mk (show w.heap.size ≤ g3 ∧ g3 < w1.heap.size from ⟨by rw [hg]; exact (below_size (by repeat (first | exact Below.refl _ _ | apply below_alloc | apply pw_below_drewN | apply below_drew1))), blk_lt hbox⟩); replace HB := Aside0.mk (below_step HB.out hs); have BKg3 := Aside0.mk hbox; clear hb hbox hg hs; obtain ⟨hcg3_0, hcg3_1, hcg3_2, hcg3_3, hcg3_4, hfg3_0, hfg3_1, hfg3_2, hfg3_3, hfg3_4⟩ := cs5 BKg3.out; clear tok1; have tok2 : True := trivial) | (have _ := tok2; (with_reducible refine gate_dst (N := 6) rfl ?_); refine box_event rfl (N := 6) rfl (cs := #[.int .i64 0, .int .i64 0, .int .i64 0, .int .i64 0, .slice none 0 0]) (t := 27) (by go_simp; try rfl) ?_; intro g6 hg w2 hbox hb; have hs : Below w1.heap.size w1 w2 := below_step (by repeat (first | exact Below.refl _ _ | apply below_alloc | apply pw_below_drewN | apply below_drew1)) hb; have SZ2 := Aside0.mk (show w1.heap.size ≤ g6 ∧ g6 < w2.heap.size from ⟨by rw [hg]; exact (below_size (by repeat (first | exact Below.refl _ _ | apply below_alloc | apply pw_below_drewN | apply below_drew1))), blk_lt hbox⟩); (try clear hcg3_0 hfg3_0); (try clear hcg3_1 hfg3_1); (try clear hcg3_2 hfg3_2); (try clear hcg3_3 hfg3_3); (try clear hcg3_4 hfg3_4); replace BKg3 := Aside0.mk (blk_below BKg3.out hs); replace HB := Aside0.mk (below_step HB.out hs); have hneg3_g6 : g3 ≠ g6 := (by have := SZ2.out; have := SZ1.out; omega); have hneg6_g3 : g6 ≠ g3 := hneg3_g6.symm; have BKg6 := Aside0.mk hbox; clear hb hbox hg hs; obtain ⟨hcg3_0, hcg3_1, hcg3_2, hcg3_3, hcg3_4, hfg3_0, hfg3_1, hfg3_2, hfg3_3, hfg3_4⟩ := cs5 BKg3.out; obtain ⟨hcg6_0, hcg6_1, hcg6_2, hcg6_3, hcg6_4, hfg6_0, hfg6_1, hfg6_2, hfg6_3, hfg6_4⟩ := cs5 BKg6.out; clear tok2; have tok3 : True := trivial) | (have _ := tok3; go_at_call 17; (with_reducible refine (image_Check.calls k0 a b c d Am cm sl 0 _ ?s1 HCM.out HCK.out).mono ?_); (case s1 => exact Kd.C_below HC.out (by repeat (first | exact HB.out | apply below_alloc | apply pw_below_drewN | apply below_drew1))); rintro e w3 ⟨rfl, hb⟩; (try clear hcg3_0 hfg3_0); (try clear hcg3_1 hfg3_1); (try clear hcg3_2 hfg3_2); (try clear hcg3_3 hfg3_3); (try clear hcg3_4 hfg3_4); (try clear hcg6_0 hfg6_0); (try clear hcg6_1 hfg6_1); (try clear hcg6_2 hfg6_2); (try clear hcg6_3 hfg6_3); (try clear hcg6_4 hfg6_4); have hs : Below w2.heap.size w2 w3 := below_step (by repeat (first | exact Below.refl _ _ | apply below_alloc | apply pw_below_drewN | apply below_drew1)) hb; have hl : w2.heap.size ≤ _ := below_size (w := w2) (by repeat (first | exact Below.refl _ _ | apply below_alloc | apply pw_below_drewN | apply below_drew1)); have SZ3 := Aside0.mk (show w2.heap.size ≤ w3.heap.size from hs.size); replace BKg3 := Aside0.mk (blk_below BKg3.out hs); replace BKg6 := Aside0.mk (blk_below BKg6.out hs); replace HB := Aside0.mk (below_step HB.out hs); clear hb hs; (try clear hl); obtain ⟨hcg3_0, hcg3_1, hcg3_2, hcg3_3, hcg3_4, hfg3_0, hfg3_1, hfg3_2, hfg3_3, hfg3_4⟩ := cs5 BKg3.out; obtain ⟨hcg6_0, hcg6_1, hcg6_2, hcg6_3, hcg6_4, hfg6_0, hfg6_1, hfg6_2, hfg6_3, hfg6_4⟩ := cs5 BKg6.out; clear tok3; have tok4 : True := trivial) | (have _ := tok4; go_at_call 42; (with_reducible refine (contains_walk a b c d Am cm sl g3 l A cl _ (by first | exact BKg3.out | (refine sO ?_; exact BKg3.out)) ?s1 (by have := HLN.out; omega)).mono ?_); (case s1 => exact Kd.C_below HL.out (by repeat (first | exact HB.out | apply below_alloc | apply pw_below_drewN | apply below_drew1))); rintro e w4 ⟨rfl, hb⟩; (try clear hcg3_0 hfg3_0); (try clear hcg3_1 hfg3_1); (try clear hcg3_2 hfg3_2); (try clear hcg3_3 hfg3_3); (try clear hcg3_4 hfg3_4); (try clear hcg6_0 hfg6_0); (try clear hcg6_1 hfg6_1); (try clear hcg6_2 hfg6_2); (try clear hcg6_3 hfg6_3); (try clear hcg6_4 hfg6_4); have hs : Below w3.heap.size w3 w4 := below_step (by repeat (first | exact Below.refl _ _ | apply below_alloc | apply pw_below_drewN | apply below_drew1)) hb; have hl : w3.heap.size ≤ _ := below_size (w := w3) (by repeat (first | exact Below.refl _ _ | apply below_alloc | apply pw_below_drewN | apply below_drew1)); have SZ4 := Aside0.mk (show w3.heap.size ≤ w4.heap.size from hs.size); replace BKg3 := Aside0.mk (blk_below BKg3.out hs); replace BKg6 := Aside0.mk (blk_below BKg6.out hs); replace HB := Aside0.mk (below_step HB.out hs); rw [e1]; clear hb hs; (try clear hl); obtain ⟨hcg3_0, hcg3_1, hcg3_2, hcg3_3, hcg3_4, hfg3_0, hfg3_1, hfg3_2, hfg3_3, hfg3_4⟩ := cs5 BKg3.out; obtain ⟨hcg6_0, hcg6_1, hcg6_2, hcg6_3, hcg6_4, hfg6_0, hfg6_1, hfg6_2, hfg6_3, hfg6_4⟩ := cs5 BKg6.out; clear tok4))
 (try clear hcg3_0 hfg3_0)
 (try clear hcg3_1 hfg3_1)
 (try clear hcg3_2 hfg3_2)
 (try clear hcg3_3 hfg3_3)
 (try clear hcg3_4 hfg3_4)
 (try clear hcg6_0 hfg6_0)
 (try clear hcg6_1 hfg6_1)
 (try clear hcg6_2 hfg6_2)
 (try clear hcg6_3 hfg6_3)
 (try clear hcg6_4 hfg6_4)
 replace BKg3 := Aside0.mk (blk_far BKg3.out (p := ⟨g6, 0, none⟩) (by show _ ≠ _; have := SZ1.out; have := SZ2.out; have := SZ3.out; have := SZ4.out; omega) (.int .i64 0))
 replace BKg6 := Aside0.mk (blk_put BKg6.out 0 (.int .i64 0) rfl)
 replace HB := Aside0.mk (below_set HB.out (by have := SZ1.out; have := SZ2.out; have := SZ3.out; have := SZ4.out; omega : w.heap.size ≤ g6) (j := 0) (v := .int .i64 0))
 replace BKg3 := Aside0.mk (blk_far BKg3.out (p := ⟨g6, 1, none⟩) (by show _ ≠ _; have := SZ1.out; have := SZ2.out; have := SZ3.out; have := SZ4.out; omega) (.int .i64 0))
 replace BKg6 := Aside0.mk (blk_put BKg6.out 1 (.int .i64 0) rfl)
 replace HB := Aside0.mk (below_set HB.out (by have := SZ1.out; have := SZ2.out; have := SZ3.out; have := SZ4.out; omega : w.heap.size ≤ g6) (j := 1) (v := .int .i64 0))
 replace BKg3 := Aside0.mk (blk_far BKg3.out (p := ⟨g6, 2, none⟩) (by show _ ≠ _; have := SZ1.out; have := SZ2.out; have := SZ3.out; have := SZ4.out; omega) (.int .i64 0))
 replace BKg6 := Aside0.mk (blk_put BKg6.out 2 (.int .i64 0) rfl)
 replace HB := Aside0.mk (below_set HB.out (by have := SZ1.out; have := SZ2.out; have := SZ3.out; have := SZ4.out; omega : w.heap.size ≤ g6) (j := 2) (v := .int .i64 0))
 replace BKg3 := Aside0.mk (blk_far BKg3.out (p := ⟨g6, 3, none⟩) (by show _ ≠ _; have := SZ1.out; have := SZ2.out; have := SZ3.out; have := SZ4.out; omega) (.int .i64 0))
 replace BKg6 := Aside0.mk (blk_put BKg6.out 3 (.int .i64 0) rfl)
 replace HB := Aside0.mk (below_set HB.out (by have := SZ1.out; have := SZ2.out; have := SZ3.out; have := SZ4.out; omega : w.heap.size ≤ g6) (j := 3) (v := .int .i64 0))
 replace BKg3 := Aside0.mk (blk_far BKg3.out (p := ⟨g6, 4, none⟩) (by show _ ≠ _; have := SZ1.out; have := SZ2.out; have := SZ3.out; have := SZ4.out; omega) (.slice none 0 0))
 replace BKg6 := Aside0.mk (blk_put BKg6.out 4 (.slice none 0 0) rfl)
 replace HB := Aside0.mk (below_set HB.out (by have := SZ1.out; have := SZ2.out; have := SZ3.out; have := SZ4.out; omega : w.heap.size ≤ g6) (j := 4) (v := .slice none 0 0))
 have SZ5 := Aside0.mk (show w4.heap.size ≤ (((((w4.setCell ⟨g6, 0, none⟩ (.int .i64 0)).setCell ⟨g6, 1, none⟩ (.int .i64 0)).setCell ⟨g6, 2, none⟩ (.int .i64 0)).setCell ⟨g6, 3, none⟩ (.int .i64 0)).setCell ⟨g6, 4, none⟩ (.slice none 0 0)).heap.size from by simp [World.setCell])
 generalize (((((w4.setCell ⟨g6, 0, none⟩ (.int .i64 0)).setCell ⟨g6, 1, none⟩ (.int .i64 0)).setCell ⟨g6, 2, none⟩ (.int .i64 0)).setCell ⟨g6, 3, none⟩ (.int .i64 0)).setCell ⟨g6, 4, none⟩ (.slice none 0 0)) = w5 at HB BKg3 BKg6 SZ5 ⊢
 obtain ⟨hcg3_0, hcg3_1, hcg3_2, hcg3_3, hcg3_4, hfg3_0, hfg3_1, hfg3_2, hfg3_3, hfg3_4⟩ := cs5 BKg3.out; obtain ⟨hcg6_0, hcg6_1, hcg6_2, hcg6_3, hcg6_4, hfg6_0, hfg6_1, hfg6_2, hfg6_3, hfg6_4⟩ := cs5 BKg6.out
 refine bodyPost_ret (results_ct rfl _ _ g6 27 #[.int .i64 0, .int .i64 0, .int .i64 0, .int .i64 0, .slice none 0 0] (0, 0) _ rfl (by first | exact BKg6.out | (refine sO ?_; exact BKg6.out)) hu27 rfl (by kernel_rfl)) rfl ?_
 exact ⟨_, rfl, Kd.S_nil _ _ _ _ _, (by repeat (first | exact HB.out | apply below_alloc | apply pw_below_drewN | apply below_drew1))⟩
set_option maxHeartbeats 8000000 in
set_option maxRecDepth 100000 in
theorem After_good (k0 : Nat) (a b c d : Int) (Am : Option Addr) (cm : Nat) (sl : List (List Int)) (A : Option Addr) (cl : Nat) (l : List S35) (n : Int) (w : World) (hCm : Kd.C (Kd.slice 5 (Kd.int .u8)) w Am sl.length sl) (hcm : sl.length ≤ cm) (hL : Kd.C k35 w A l.length l) (hcl : l.length ≤ cl) (hck : image_Check.f k0 a b c d sl = some 0) (hl : l.length ≤ 65536) (hm : l.all (mayB a b c d) = true) (hn : 0 ≤ n ∧ n ≤ (l.length : Int)) (p q u v : Int) (s r : List (List Int)) (ht : image_twin.f k0 a b c d sl = some (p, q, u, v, s)) (hp : image_After.puts d (l.take n.toNat) s = some r) : Calls Try.prog 13 #[.agg #[.int .i64 a, .int .i64 b, .int .i64 c, .int .i64 d, .slice Am sl.length cm], .slice A l.length cl, .int .i64 n] w fun e w' => ∃ v4_ : Value, e = .returned (.tuple #[.agg #[.int .i64 p, .int .i64 q, .int .i64 u, .int .i64 v, v4_], .int .i64 0]) ∧ Kd.S (Kd.slice 5 (Kd.int .u8)) 33 w' w.heap.size (fun _ => True) v4_ r ∧ Below w.heap.size w w' := by
 have hu27 := Try.underlying27
 have hu24 := Try.underlying24
 have hu35 := Try.underlying35
 have HB := Aside0.mk (Below.refl w.heap.size w)
 have HC := Aside0.mk hCm
 have HCM := Aside0.mk hcm
 have HL := Aside0.mk hL
 have HCL := Aside0.mk hcl
 have HCK := Aside0.mk hck
 clear hck
 have HLN := Aside0.mk hl
 have d1 : decide ((65536 : Int) < (l.length : Int)) = false := decide_eq_false (by omega)
 have d2 : decide (65536 < l.length) = false := decide_eq_false (by omega)
 clear hl
 have e1 : (!l.all (mayB a b c d)) = false := by rw [hm]; rfl
 clear hm
 obtain ⟨nn, rfl⟩ : ∃ nn : Nat, n = (nn : Int) := ⟨n.toNat, by omega⟩
 rw [Int.toNat_natCast] at hp
 have HTW := Aside0.mk ht
 have HPU := Aside0.mk hp
 have HNN := Aside0.mk (show nn ≤ l.length by omega)
 have d3 : decide ((nn : Int) < 0) = false := decide_eq_false (by omega)
 have d4 : decide ((l.length : Int) < (nn : Int)) = false := decide_eq_false (by omega)
 have d5 : decide (l.length < nn) = false := decide_eq_false (by omega)
 have d6 : (nn ≤ cl) = True := eq_true (by have := HCL.out; omega)
 clear hn ht hp
 clear hCm hcm hL hcl
 go_enter Try.func13, Try.ntmps13
 have tok1 : True := trivial
 go_wp2_with (first | (have _ := tok1; (with_reducible refine gate_dst (N := 3) rfl ?_); refine box_event rfl (N := 3) rfl (cs := #[.int .i64 a, .int .i64 b, .int .i64 c, .int .i64 d, .slice Am sl.length cm]) (t := 27) (by go_simp; try rfl) ?_; intro g3 hg w1 hbox hb; have hs : Below w.heap.size w w1 := below_step (by repeat (first | exact Below.refl _ _ | apply below_alloc | apply pw_below_drewN | apply below_drew1)) hb; have SZ1 := Aside0.mk (show w.heap.size ≤ g3 ∧ g3 < w1.heap.size from ⟨by rw [hg]; exact (below_size (by repeat (first | exact Below.refl _ _ | apply below_alloc | apply pw_below_drewN | apply below_drew1))), blk_lt hbox⟩); replace HB := Aside0.mk (below_step HB.out hs); have BKg3 := Aside0.mk hbox; clear hb hbox hg hs; obtain ⟨hcg3_0, hcg3_1, hcg3_2, hcg3_3, hcg3_4, hfg3_0, hfg3_1, hfg3_2, hfg3_3, hfg3_4⟩ := cs5 BKg3.out; clear tok1; have tok2 : True := trivial) | (have _ := tok2; (with_reducible refine gate_dst (N := 6) rfl ?_); refine box_event rfl (N := 6) rfl (cs := #[.int .i64 0, .int .i64 0, .int .i64 0, .int .i64 0, .slice none 0 0]) (t := 27) (by go_simp; try rfl) ?_; intro g6 hg w2 hbox hb; have hs : Below w1.heap.size w1 w2 := below_step (by repeat (first | exact Below.refl _ _ | apply below_alloc | apply pw_below_drewN | apply below_drew1)) hb; have SZ2 := Aside0.mk (show w1.heap.size ≤ g6 ∧ g6 < w2.heap.size from ⟨by rw [hg]; exact (below_size (by repeat (first | exact Below.refl _ _ | apply below_alloc | apply pw_below_drewN | apply below_drew1))), blk_lt hbox⟩); (try clear hcg3_0 hfg3_0); (try clear hcg3_1 hfg3_1); (try clear hcg3_2 hfg3_2); (try clear hcg3_3 hfg3_3); (try clear hcg3_4 hfg3_4); replace BKg3 := Aside0.mk (blk_below BKg3.out hs); replace HB := Aside0.mk (below_step HB.out hs); have hneg3_g6 : g3 ≠ g6 := (by have := SZ2.out; have := SZ1.out; omega); have hneg6_g3 : g6 ≠ g3 := hneg3_g6.symm; have BKg6 := Aside0.mk hbox; clear hb hbox hg hs; obtain ⟨hcg3_0, hcg3_1, hcg3_2, hcg3_3, hcg3_4, hfg3_0, hfg3_1, hfg3_2, hfg3_3, hfg3_4⟩ := cs5 BKg3.out; obtain ⟨hcg6_0, hcg6_1, hcg6_2, hcg6_3, hcg6_4, hfg6_0, hfg6_1, hfg6_2, hfg6_3, hfg6_4⟩ := cs5 BKg6.out; clear tok2; have tok3 : True := trivial) | (have _ := tok3; go_at_call 17; (with_reducible refine (image_Check.calls k0 a b c d Am cm sl 0 _ ?s1 HCM.out HCK.out).mono ?_); (case s1 => exact Kd.C_below HC.out (by repeat (first | exact HB.out | apply below_alloc | apply pw_below_drewN | apply below_drew1))); rintro e w3 ⟨rfl, hb⟩; (try clear hcg3_0 hfg3_0); (try clear hcg3_1 hfg3_1); (try clear hcg3_2 hfg3_2); (try clear hcg3_3 hfg3_3); (try clear hcg3_4 hfg3_4); (try clear hcg6_0 hfg6_0); (try clear hcg6_1 hfg6_1); (try clear hcg6_2 hfg6_2); (try clear hcg6_3 hfg6_3); (try clear hcg6_4 hfg6_4); have hs : Below w2.heap.size w2 w3 := below_step (by repeat (first | exact Below.refl _ _ | apply below_alloc | apply pw_below_drewN | apply below_drew1)) hb; have hl : w2.heap.size ≤ _ := below_size (w := w2) (by repeat (first | exact Below.refl _ _ | apply below_alloc | apply pw_below_drewN | apply below_drew1)); have SZ3 := Aside0.mk (show w2.heap.size ≤ w3.heap.size from hs.size); replace BKg3 := Aside0.mk (blk_below BKg3.out hs); replace BKg6 := Aside0.mk (blk_below BKg6.out hs); replace HB := Aside0.mk (below_step HB.out hs); clear hb hs; (try clear hl); obtain ⟨hcg3_0, hcg3_1, hcg3_2, hcg3_3, hcg3_4, hfg3_0, hfg3_1, hfg3_2, hfg3_3, hfg3_4⟩ := cs5 BKg3.out; obtain ⟨hcg6_0, hcg6_1, hcg6_2, hcg6_3, hcg6_4, hfg6_0, hfg6_1, hfg6_2, hfg6_3, hfg6_4⟩ := cs5 BKg6.out; clear tok3; have tok4 : True := trivial) | (have _ := tok4; go_at_call 42; (with_reducible refine (contains_walk a b c d Am cm sl g3 l A cl _ (by first | exact BKg3.out | (refine sO ?_; exact BKg3.out)) ?s1 (by have := HLN.out; omega)).mono ?_); (case s1 => exact Kd.C_below HL.out (by repeat (first | exact HB.out | apply below_alloc | apply pw_below_drewN | apply below_drew1))); rintro e w4 ⟨rfl, hb⟩; (try clear hcg3_0 hfg3_0); (try clear hcg3_1 hfg3_1); (try clear hcg3_2 hfg3_2); (try clear hcg3_3 hfg3_3); (try clear hcg3_4 hfg3_4); (try clear hcg6_0 hfg6_0); (try clear hcg6_1 hfg6_1); (try clear hcg6_2 hfg6_2); (try clear hcg6_3 hfg6_3); (try clear hcg6_4 hfg6_4); have hs : Below w3.heap.size w3 w4 := below_step (by repeat (first | exact Below.refl _ _ | apply below_alloc | apply pw_below_drewN | apply below_drew1)) hb; have hl : w3.heap.size ≤ _ := below_size (w := w3) (by repeat (first | exact Below.refl _ _ | apply below_alloc | apply pw_below_drewN | apply below_drew1)); have SZ4 := Aside0.mk (show w3.heap.size ≤ w4.heap.size from hs.size); replace BKg3 := Aside0.mk (blk_below BKg3.out hs); replace BKg6 := Aside0.mk (blk_below BKg6.out hs); replace HB := Aside0.mk (below_step HB.out hs); rw [e1]; clear hb hs; (try clear hl); obtain ⟨hcg3_0, hcg3_1, hcg3_2, hcg3_3, hcg3_4, hfg3_0, hfg3_1, hfg3_2, hfg3_3, hfg3_4⟩ := cs5 BKg3.out; obtain ⟨hcg6_0, hcg6_1, hcg6_2, hcg6_3, hcg6_4, hfg6_0, hfg6_1, hfg6_2, hfg6_3, hfg6_4⟩ := cs5 BKg6.out; clear tok4; have tok5 : True := trivial) | (have _ := tok5; go_at_call 45; (with_reducible refine (image_twin.calls k0 a b c d Am cm sl p q u v s _ ?s1 HCM.out HTW.out).mono ?_); (case s1 => exact Kd.C_below HC.out (by repeat (first | exact HB.out | apply below_alloc | apply pw_below_drewN | apply below_drew1))); rintro e w5 ⟨vt, rfl, ho, hb⟩; (try clear hcg3_0 hfg3_0); (try clear hcg3_1 hfg3_1); (try clear hcg3_2 hfg3_2); (try clear hcg3_3 hfg3_3); (try clear hcg3_4 hfg3_4); (try clear hcg6_0 hfg6_0); (try clear hcg6_1 hfg6_1); (try clear hcg6_2 hfg6_2); (try clear hcg6_3 hfg6_3); (try clear hcg6_4 hfg6_4); have hs : Below w4.heap.size w4 w5 := below_step (by repeat (first | exact Below.refl _ _ | apply below_alloc | apply pw_below_drewN | apply below_drew1)) hb; have hl : w4.heap.size ≤ _ := below_size (w := w4) (by repeat (first | exact Below.refl _ _ | apply below_alloc | apply pw_below_drewN | apply below_drew1)); have SZ5 := Aside0.mk (show w4.heap.size ≤ w5.heap.size from hs.size); replace BKg3 := Aside0.mk (blk_below BKg3.out hs); replace BKg6 := Aside0.mk (blk_below BKg6.out hs); have HO := Aside0.mk (Kd.S_lower ho (below_size (by repeat (first | exact HB.out | apply below_alloc | apply pw_below_drewN | apply below_drew1)))); replace HB := Aside0.mk (below_step HB.out hs); clear ho; obtain ⟨A9, c9, e_⟩ := Kd.S_slice HO.out; subst e_; clear hb hs; (try clear hl); obtain ⟨hcg3_0, hcg3_1, hcg3_2, hcg3_3, hcg3_4, hfg3_0, hfg3_1, hfg3_2, hfg3_3, hfg3_4⟩ := cs5 BKg3.out; obtain ⟨hcg6_0, hcg6_1, hcg6_2, hcg6_3, hcg6_4, hfg6_0, hfg6_1, hfg6_2, hfg6_3, hfg6_4⟩ := cs5 BKg6.out; clear tok5; have tok6 : True := trivial) | (have _ := tok6; (with_reducible refine gate_dst (N := 9) rfl ?_); refine box_event rfl (N := 9) rfl (cs := #[.int .i64 0, .int .i64 0, .int .i64 0, .int .i64 0, .slice none 0 0]) (t := 27) (by go_simp; try rfl) ?_; intro g9 hg w6 hbox hb; have hs : Below w5.heap.size w5 w6 := below_step (by repeat (first | exact Below.refl _ _ | apply below_alloc | apply pw_below_drewN | apply below_drew1)) hb; have SZ6 := Aside0.mk (show w5.heap.size ≤ g9 ∧ g9 < w6.heap.size from ⟨by rw [hg]; exact (below_size (by repeat (first | exact Below.refl _ _ | apply below_alloc | apply pw_below_drewN | apply below_drew1))), blk_lt hbox⟩); (try clear hcg3_0 hfg3_0); (try clear hcg3_1 hfg3_1); (try clear hcg3_2 hfg3_2); (try clear hcg3_3 hfg3_3); (try clear hcg3_4 hfg3_4); (try clear hcg6_0 hfg6_0); (try clear hcg6_1 hfg6_1); (try clear hcg6_2 hfg6_2); (try clear hcg6_3 hfg6_3); (try clear hcg6_4 hfg6_4); replace BKg3 := Aside0.mk (blk_below BKg3.out hs); replace BKg6 := Aside0.mk (blk_below BKg6.out hs); replace HO := Aside0.mk (Kd.S_below HO.out hs); replace HB := Aside0.mk (below_step HB.out hs); have hneg3_g9 : g3 ≠ g9 := (by have := SZ6.out; have := SZ1.out; have := SZ2.out; have := SZ3.out; have := SZ4.out; have := SZ5.out; omega); have hneg9_g3 : g9 ≠ g3 := hneg3_g9.symm; have hneg6_g9 : g6 ≠ g9 := (by have := SZ6.out; have := SZ1.out; have := SZ2.out; have := SZ3.out; have := SZ4.out; have := SZ5.out; omega); have hneg9_g6 : g9 ≠ g6 := hneg6_g9.symm; have BKg9 := Aside0.mk hbox; clear hb hbox hg hs; obtain ⟨hcg3_0, hcg3_1, hcg3_2, hcg3_3, hcg3_4, hfg3_0, hfg3_1, hfg3_2, hfg3_3, hfg3_4⟩ := cs5 BKg3.out; obtain ⟨hcg6_0, hcg6_1, hcg6_2, hcg6_3, hcg6_4, hfg6_0, hfg6_1, hfg6_2, hfg6_3, hfg6_4⟩ := cs5 BKg6.out; obtain ⟨hcg9_0, hcg9_1, hcg9_2, hcg9_3, hcg9_4, hfg9_0, hfg9_1, hfg9_2, hfg9_3, hfg9_4⟩ := cs5 BKg9.out; clear tok6))
 (try clear hcg3_0 hfg3_0)
 (try clear hcg3_1 hfg3_1)
 (try clear hcg3_2 hfg3_2)
 (try clear hcg3_3 hfg3_3)
 (try clear hcg3_4 hfg3_4)
 (try clear hcg6_0 hfg6_0)
 (try clear hcg6_1 hfg6_1)
 (try clear hcg6_2 hfg6_2)
 (try clear hcg6_3 hfg6_3)
 (try clear hcg6_4 hfg6_4)
 (try clear hcg9_0 hfg9_0)
 (try clear hcg9_1 hfg9_1)
 (try clear hcg9_2 hfg9_2)
 (try clear hcg9_3 hfg9_3)
 (try clear hcg9_4 hfg9_4)
 replace BKg3 := Aside0.mk (blk_far BKg3.out (p := ⟨g9, 0, none⟩) (by show _ ≠ _; have := SZ1.out; have := SZ2.out; have := SZ3.out; have := SZ4.out; have := SZ5.out; have := SZ6.out; omega) (.int .i64 p))
 replace BKg6 := Aside0.mk (blk_far BKg6.out (p := ⟨g9, 0, none⟩) (by show _ ≠ _; have := SZ1.out; have := SZ2.out; have := SZ3.out; have := SZ4.out; have := SZ5.out; have := SZ6.out; omega) (.int .i64 p))
 replace HO := Aside0.mk (Kd.S_set HO.out BKg9.out (by decide) 0 (.int .i64 p))
 replace BKg9 := Aside0.mk (blk_put BKg9.out 0 (.int .i64 p) rfl)
 replace HB := Aside0.mk (below_set HB.out (by have := SZ1.out; have := SZ2.out; have := SZ3.out; have := SZ4.out; have := SZ5.out; have := SZ6.out; omega : w.heap.size ≤ g9) (j := 0) (v := .int .i64 p))
 replace BKg3 := Aside0.mk (blk_far BKg3.out (p := ⟨g9, 1, none⟩) (by show _ ≠ _; have := SZ1.out; have := SZ2.out; have := SZ3.out; have := SZ4.out; have := SZ5.out; have := SZ6.out; omega) (.int .i64 q))
 replace BKg6 := Aside0.mk (blk_far BKg6.out (p := ⟨g9, 1, none⟩) (by show _ ≠ _; have := SZ1.out; have := SZ2.out; have := SZ3.out; have := SZ4.out; have := SZ5.out; have := SZ6.out; omega) (.int .i64 q))
 replace HO := Aside0.mk (Kd.S_set HO.out BKg9.out (by decide) 1 (.int .i64 q))
 replace BKg9 := Aside0.mk (blk_put BKg9.out 1 (.int .i64 q) rfl)
 replace HB := Aside0.mk (below_set HB.out (by have := SZ1.out; have := SZ2.out; have := SZ3.out; have := SZ4.out; have := SZ5.out; have := SZ6.out; omega : w.heap.size ≤ g9) (j := 1) (v := .int .i64 q))
 replace BKg3 := Aside0.mk (blk_far BKg3.out (p := ⟨g9, 2, none⟩) (by show _ ≠ _; have := SZ1.out; have := SZ2.out; have := SZ3.out; have := SZ4.out; have := SZ5.out; have := SZ6.out; omega) (.int .i64 u))
 replace BKg6 := Aside0.mk (blk_far BKg6.out (p := ⟨g9, 2, none⟩) (by show _ ≠ _; have := SZ1.out; have := SZ2.out; have := SZ3.out; have := SZ4.out; have := SZ5.out; have := SZ6.out; omega) (.int .i64 u))
 replace HO := Aside0.mk (Kd.S_set HO.out BKg9.out (by decide) 2 (.int .i64 u))
 replace BKg9 := Aside0.mk (blk_put BKg9.out 2 (.int .i64 u) rfl)
 replace HB := Aside0.mk (below_set HB.out (by have := SZ1.out; have := SZ2.out; have := SZ3.out; have := SZ4.out; have := SZ5.out; have := SZ6.out; omega : w.heap.size ≤ g9) (j := 2) (v := .int .i64 u))
 replace BKg3 := Aside0.mk (blk_far BKg3.out (p := ⟨g9, 3, none⟩) (by show _ ≠ _; have := SZ1.out; have := SZ2.out; have := SZ3.out; have := SZ4.out; have := SZ5.out; have := SZ6.out; omega) (.int .i64 v))
 replace BKg6 := Aside0.mk (blk_far BKg6.out (p := ⟨g9, 3, none⟩) (by show _ ≠ _; have := SZ1.out; have := SZ2.out; have := SZ3.out; have := SZ4.out; have := SZ5.out; have := SZ6.out; omega) (.int .i64 v))
 replace HO := Aside0.mk (Kd.S_set HO.out BKg9.out (by decide) 3 (.int .i64 v))
 replace BKg9 := Aside0.mk (blk_put BKg9.out 3 (.int .i64 v) rfl)
 replace HB := Aside0.mk (below_set HB.out (by have := SZ1.out; have := SZ2.out; have := SZ3.out; have := SZ4.out; have := SZ5.out; have := SZ6.out; omega : w.heap.size ≤ g9) (j := 3) (v := .int .i64 v))
 replace BKg3 := Aside0.mk (blk_far BKg3.out (p := ⟨g9, 4, none⟩) (by show _ ≠ _; have := SZ1.out; have := SZ2.out; have := SZ3.out; have := SZ4.out; have := SZ5.out; have := SZ6.out; omega) (.slice A9 s.length c9))
 replace BKg6 := Aside0.mk (blk_far BKg6.out (p := ⟨g9, 4, none⟩) (by show _ ≠ _; have := SZ1.out; have := SZ2.out; have := SZ3.out; have := SZ4.out; have := SZ5.out; have := SZ6.out; omega) (.slice A9 s.length c9))
 replace HO := Aside0.mk (Kd.S_set HO.out BKg9.out (by decide) 4 (.slice A9 s.length c9))
 replace BKg9 := Aside0.mk (blk_put BKg9.out 4 (.slice A9 s.length c9) rfl)
 replace HB := Aside0.mk (below_set HB.out (by have := SZ1.out; have := SZ2.out; have := SZ3.out; have := SZ4.out; have := SZ5.out; have := SZ6.out; omega : w.heap.size ≤ g9) (j := 4) (v := .slice A9 s.length c9))
 have SZ7 := Aside0.mk (show w6.heap.size ≤ (((((w6.setCell ⟨g9, 0, none⟩ (.int .i64 p)).setCell ⟨g9, 1, none⟩ (.int .i64 q)).setCell ⟨g9, 2, none⟩ (.int .i64 u)).setCell ⟨g9, 3, none⟩ (.int .i64 v)).setCell ⟨g9, 4, none⟩ (.slice A9 s.length c9)).heap.size from by simp [World.setCell])
 generalize (((((w6.setCell ⟨g9, 0, none⟩ (.int .i64 p)).setCell ⟨g9, 1, none⟩ (.int .i64 q)).setCell ⟨g9, 2, none⟩ (.int .i64 u)).setCell ⟨g9, 3, none⟩ (.int .i64 v)).setCell ⟨g9, 4, none⟩ (.slice A9 s.length c9)) = w7 at HB BKg3 BKg6 HO BKg9 SZ7 ⊢
 obtain ⟨hcg3_0, hcg3_1, hcg3_2, hcg3_3, hcg3_4, hfg3_0, hfg3_1, hfg3_2, hfg3_3, hfg3_4⟩ := cs5 BKg3.out; obtain ⟨hcg6_0, hcg6_1, hcg6_2, hcg6_3, hcg6_4, hfg6_0, hfg6_1, hfg6_2, hfg6_3, hfg6_4⟩ := cs5 BKg6.out; obtain ⟨hcg9_0, hcg9_1, hcg9_2, hcg9_3, hcg9_4, hfg9_0, hfg9_1, hfg9_2, hfg9_3, hfg9_4⟩ := cs5 BKg9.out
 (try clear hcg3_0 hfg3_0)
 (try clear hcg3_1 hfg3_1)
 (try clear hcg3_2 hfg3_2)
 (try clear hcg3_3 hfg3_3)
 (try clear hcg3_4 hfg3_4)
 (try clear hcg6_0 hfg6_0)
 (try clear hcg6_1 hfg6_1)
 (try clear hcg6_2 hfg6_2)
 (try clear hcg6_3 hfg6_3)
 (try clear hcg6_4 hfg6_4)
 (try clear hcg9_0 hfg9_0)
 (try clear hcg9_1 hfg9_1)
 (try clear hcg9_2 hfg9_2)
 (try clear hcg9_3 hfg9_3)
 (try clear hcg9_4 hfg9_4)
 have HLT := Aside0.mk (Kd.C_take HL.out HNN.out)
 have HLTL := Aside0.mk (show (l.take nn).length = nn by rw [List.length_take]; have := HNN.out; omega)
 have HOT := Aside0.mk HO.out
 have HGE6 := Aside0.mk (show w.heap.size ≤ g6 by have := SZ1.out; have := SZ2.out; omega)
 have HGE9 := Aside0.mk (show w.heap.size ≤ g9 by have := SZ1.out; have := SZ2.out; have := SZ3.out; have := SZ4.out; have := SZ5.out; have := SZ6.out; have := SZ7.out; omega)
 have HNE39 := Aside0.mk (show g3 ≠ g9 by have := SZ1.out; have := SZ2.out; have := SZ3.out; have := SZ4.out; have := SZ5.out; have := SZ6.out; have := SZ7.out; omega)
 have HNE69 := Aside0.mk (show g6 ≠ g9 by have := SZ1.out; have := SZ2.out; have := SZ3.out; have := SZ4.out; have := SZ5.out; have := SZ6.out; have := SZ7.out; omega)
 have HNE36 := Aside0.mk (show g3 ≠ g6 by have := SZ1.out; have := SZ2.out; have := SZ3.out; have := SZ4.out; have := SZ5.out; have := SZ6.out; have := SZ7.out; omega)
 clear HO
 go_loopg [41] nn (fun kq v41 wr => ∃ (k : Nat) (st : List (List Int)), v41 = .int .i64 (k : Int) ∧ Aside0 (k ≤ nn ∧ nn - k ≤ kq) ∧ Aside0 (wr.heap[g3]? = some (.cells #[.int .i64 a, .int .i64 b, .int .i64 c, .int .i64 d, .slice Am sl.length cm] 27 (0, 0))) ∧ Aside0 (wr.heap[g6]? = some (.cells #[.int .i64 0, .int .i64 0, .int .i64 0, .int .i64 0, .slice none 0 0] 27 (0, 0))) ∧ Aside0 (wr.heap[g9]? = some (.cells #[.int .i64 p, .int .i64 q, .int .i64 u, .int .i64 v, .slice A9 s.length c9] 27 (0, 0))) ∧ Aside0 (Kd.S (Kd.slice 5 (Kd.int .u8)) 33 wr w.heap.size (fun _ => True) (.slice A9 s.length c9) st ∧ image_After.puts d ((l.take nn).drop k) st = some r) ∧ Aside0 (Below w.heap.size w wr))
 case atStart => exact ⟨0, s, rfl, Aside0.mk ⟨by omega, by omega⟩, Aside0.mk (by first | exact BKg3.out | (refine sO ?_; exact BKg3.out)), Aside0.mk (by first | exact BKg6.out | (refine sO ?_; exact BKg6.out)), Aside0.mk (by first | exact BKg9.out | (refine sO ?_; exact BKg9.out)), Aside0.mk ⟨by (with_reducible repeat (first | apply Kd.S_alloc | apply Kd.S_drewN | apply Kd.S_drew)); exact HOT.out, by rw [List.drop_zero]; exact HPU.out⟩, Aside0.mk (by repeat (first | exact HB.out | apply below_alloc | apply pw_below_drewN | apply below_drew1))⟩
 case round =>
  clear BKg3 BKg6 BKg9 HOT HB
  obtain ⟨k, st, rfl, AX, BKg3, BKg6, BKg9, HS, HB⟩ := hrel
  have HOT := Aside0.mk (Kd.S_mono (Kd.S_bound HS.out.1) (fun k hk => hk.2.2.1 : ∀ k, _ → k < wr.heap.size))
  have HPS := Aside0.mk HS.out.2
  clear HS
  by_cases hlt : k < nn
  rotate_left
  ·
   have b1 : decide ((k : Int) < (nn : Int)) = false := decide_eq_false (by omega)
   have b2 : decide (k < nn) = false := decide_eq_false hlt
   have hr : st = r := by
    have h := HPS.out
    rw [List.drop_eq_nil_of_le (by rw [HLTL.out]; omega), image_After.puts] at h
    exact Option.some.inj h
   subst hr
   clear hlt HPS
   have hne69 : g6 ≠ g9 := HNE69.out
   have hne96 : g9 ≠ g6 := hne69.symm
   obtain ⟨hcg6_0, hcg6_1, hcg6_2, hcg6_3, hcg6_4, hfg6_0, hfg6_1, hfg6_2, hfg6_3, hfg6_4⟩ := cs5 BKg6.out; obtain ⟨hcg9_0, hcg9_1, hcg9_2, hcg9_3, hcg9_4, hfg9_0, hfg9_1, hfg9_2, hfg9_3, hfg9_4⟩ := cs5 BKg9.out
   go_wp2_with (fail)
   (try clear hcg6_0 hfg6_0)
   (try clear hcg6_1 hfg6_1)
   (try clear hcg6_2 hfg6_2)
   (try clear hcg6_3 hfg6_3)
   (try clear hcg6_4 hfg6_4)
   (try clear hcg9_0 hfg9_0)
   (try clear hcg9_1 hfg9_1)
   (try clear hcg9_2 hfg9_2)
   (try clear hcg9_3 hfg9_3)
   (try clear hcg9_4 hfg9_4)
   replace HOT := Aside0.mk (Kd.S_set HOT.out BKg6.out (by decide) 0 (.int .i64 p))
   replace BKg6 := Aside0.mk (blk_put BKg6.out 0 (.int .i64 p) rfl)
   replace HB := Aside0.mk (below_set HB.out HGE6.out (j := 0) (v := .int .i64 p))
   replace HOT := Aside0.mk (Kd.S_set HOT.out BKg6.out (by decide) 1 (.int .i64 q))
   replace BKg6 := Aside0.mk (blk_put BKg6.out 1 (.int .i64 q) rfl)
   replace HB := Aside0.mk (below_set HB.out HGE6.out (j := 1) (v := .int .i64 q))
   replace HOT := Aside0.mk (Kd.S_set HOT.out BKg6.out (by decide) 2 (.int .i64 u))
   replace BKg6 := Aside0.mk (blk_put BKg6.out 2 (.int .i64 u) rfl)
   replace HB := Aside0.mk (below_set HB.out HGE6.out (j := 2) (v := .int .i64 u))
   replace HOT := Aside0.mk (Kd.S_set HOT.out BKg6.out (by decide) 3 (.int .i64 v))
   replace BKg6 := Aside0.mk (blk_put BKg6.out 3 (.int .i64 v) rfl)
   replace HB := Aside0.mk (below_set HB.out HGE6.out (j := 3) (v := .int .i64 v))
   replace HOT := Aside0.mk (Kd.S_set HOT.out BKg6.out (by decide) 4 (.slice A9 s.length c9))
   replace BKg6 := Aside0.mk (blk_put BKg6.out 4 (.slice A9 s.length c9) rfl)
   replace HB := Aside0.mk (below_set HB.out HGE6.out (j := 4) (v := .slice A9 s.length c9))
   generalize (((((wr.setCell ⟨g6, 0, none⟩ (.int .i64 p)).setCell ⟨g6, 1, none⟩ (.int .i64 q)).setCell ⟨g6, 2, none⟩ (.int .i64 u)).setCell ⟨g6, 3, none⟩ (.int .i64 v)).setCell ⟨g6, 4, none⟩ (.slice A9 s.length c9)) = w9 at HOT BKg6 HB ⊢
   refine bodyPost_ret (results_ct rfl _ _ g6 27 #[.int .i64 p, .int .i64 q, .int .i64 u, .int .i64 v, .slice A9 s.length c9] (0, 0) _ rfl BKg6.out hu27 rfl (by kernel_rfl)) rfl ?_
   exact ⟨_, rfl, Kd.S_mono HOT.out (fun _ _ => trivial), HB.out⟩
  obtain ⟨ad, A3, c3, x, eA, hdr, htk, hle, q0, q1, q2, q3, hCx⟩ := put_elem HLT.out k (by rw [HLTL.out]; exact hlt)
  subst eA
  have hps := HPS.out
  rw [hdr, image_After.puts] at hps
  obtain ⟨st2, hp1, hp2⟩ := Option.bind_eq_some_iff.mp hps
  unfold image_After.put at hp1
  by_cases hix : 0 ≤ image_After.ix d x ∧ image_After.ix d x < (st.length : Int) ∧ x.f3.length ≤ 1000000000
  rotate_left
  ·
   rw [if_neg hix] at hp1
   cases hp1
  rw [if_pos hix] at hp1
  obtain rfl := Option.some.inj hp1
  obtain ⟨i, hi⟩ : ∃ i : Nat, image_After.ix d x = (i : Int) := ⟨(image_After.ix d x).toNat, by omega⟩
  rw [hi, Int.toNat_natCast] at hp2
  rw [hi] at hix
  unfold image_After.ix at hi
  obtain ⟨g7, cap7, e7, hb7, hl7, cells7, hh7⟩ := Kd.S_form HOT.out (by omega)
  injection e7 with ea en ec
  subst ea
  have hlen := (Kd.S_reads' HOT.out).1
  have HG7 := Aside0.mk (show w.heap.size ≤ g7 ∧ g7 < wr.heap.size from ⟨hb7, hl7⟩)
  have HN3 := Aside0.mk (show g3 ≠ g7 from fun e => Kd.S_ne HOT.out BKg3.out (by decide) (by rw [e]; rfl))
  have HN6 := Aside0.mk (show g6 ≠ g7 from fun e => Kd.S_ne HOT.out BKg6.out (by decide) (by rw [e]; rfl))
  have HN9 := Aside0.mk (show g9 ≠ g7 from fun e => Kd.S_ne HOT.out BKg9.out (by decide) (by rw [e]; rfl))
  have HP2 := Aside0.mk hp2
  have HIX := Aside0.mk (show i < st.length by omega)
  have AC := Aside0.mk (show image_taken.f x.f3 = some x.f3 by unfold image_taken.f; rw [if_pos hix.2.2])
  have ALE := Aside0.mk hle
  have HCx := Aside0.mk hCx
  have HK := Aside0.mk hlt
  have Hc0 := Aside0.mk (pw_cell_below HB.out q0)
  have Hc1 := Aside0.mk (pw_cell_below HB.out q1)
  have Hc2 := Aside0.mk (pw_cell_below HB.out q2)
  have Hc3 := Aside0.mk (pw_cell_below HB.out q3)
  have b1 : decide ((k : Int) < (nn : Int)) = true := decide_eq_true (by omega)
  have b2 : decide (k < nn) = true := decide_eq_true hlt
  have b3 : (k < nn) = True := eq_true hlt
  have b4 : (i < s.length) = True := eq_true (by omega)
  have b5 : decide (i < s.length) = true := decide_eq_true (by omega)
  have b6 : decide ((i : Int) < (s.length : Int)) = true := decide_eq_true (by omega)
  have HZ3 := Aside0.mk (show g3 < wr.heap.size from blk_lt BKg3.out)
  have HZ6 := Aside0.mk (show g6 < wr.heap.size from blk_lt BKg6.out)
  have HZ9 := Aside0.mk (show g9 < wr.heap.size from blk_lt BKg9.out)
  have HWR := Aside0.mk (show w.heap.size ≤ wr.heap.size from HB.out.size)
  have hne39 : g3 ≠ g9 := HNE39.out
  have hne69 : g6 ≠ g9 := HNE69.out
  have hne36 : g3 ≠ g6 := HNE36.out
  clear hlt hdr htk hle q0 q1 q2 q3 hCx hps hp1 hp2 hix hb7 hl7 hh7 cells7 en ec hlen
  have hcg3_3 : wr.cell? ⟨g3, 3, none⟩ = some (.int .i64 d) := (blk_cell BKg3.out 3).trans rfl; have hfg3_3 := blk_frozen BKg3.out 3; have hcg9_4 : wr.cell? ⟨g9, 4, none⟩ = some (.slice (some ⟨g7, 0, none⟩) s.length c9) := (blk_cell BKg9.out 4).trans rfl; have hfg9_4 := blk_frozen BKg9.out 4
  have xHc0 := Hc0.out
  have xHc1 := Hc1.out
  have xHc2 := Hc2.out
  have xHc3 := Hc3.out
  have tok7 : True := trivial
  go_wp2_with (first | (have _ := tok7; (with_reducible refine gate_dst (N := 11) rfl ?_); refine box_event rfl (N := 11) rfl (cs := #[.int .i64 0, .int .i64 0, .int .i64 0, .slice none 0 0]) (t := 35) (by go_simp; try rfl) ?_; intro g11 hg w8 hbox hb; have hs : Below wr.heap.size wr w8 := below_step (by repeat (first | exact Below.refl _ _ | apply below_alloc | apply pw_below_drewN | apply below_drew1)) hb; have SZ8 := Aside0.mk (show wr.heap.size ≤ g11 ∧ g11 < w8.heap.size from ⟨by rw [hg]; exact (below_size (by repeat (first | exact Below.refl _ _ | apply below_alloc | apply pw_below_drewN | apply below_drew1))), blk_lt hbox⟩); (try clear hcg3_3 hfg3_3); (try clear hcg9_4 hfg9_4); (try clear xHc0); (try clear xHc1); (try clear xHc2); (try clear xHc3); replace BKg3 := Aside0.mk (blk_below BKg3.out hs); replace BKg6 := Aside0.mk (blk_below BKg6.out hs); replace BKg9 := Aside0.mk (blk_below BKg9.out hs); replace HOT := Aside0.mk (Kd.S_below HOT.out hs); replace Hc0 := Aside0.mk (pw_cell_below hs Hc0.out); replace Hc1 := Aside0.mk (pw_cell_below hs Hc1.out); replace Hc2 := Aside0.mk (pw_cell_below hs Hc2.out); replace Hc3 := Aside0.mk (pw_cell_below hs Hc3.out); replace HB := Aside0.mk (below_step HB.out hs); have hneg3_g11 : g3 ≠ g11 := (by have := SZ8.out; have := HZ3.out; have := HZ6.out; have := HZ9.out; have := HWR.out; omega); have hneg11_g3 : g11 ≠ g3 := hneg3_g11.symm; have hneg6_g11 : g6 ≠ g11 := (by have := SZ8.out; have := HZ3.out; have := HZ6.out; have := HZ9.out; have := HWR.out; omega); have hneg11_g6 : g11 ≠ g6 := hneg6_g11.symm; have hneg9_g11 : g9 ≠ g11 := (by have := SZ8.out; have := HZ3.out; have := HZ6.out; have := HZ9.out; have := HWR.out; omega); have hneg11_g9 : g11 ≠ g9 := hneg9_g11.symm; have BKg11 := Aside0.mk hbox; clear hb hbox hg hs; have hcg3_3 : w8.cell? ⟨g3, 3, none⟩ = some (.int .i64 d) := (blk_cell BKg3.out 3).trans rfl; have hfg3_3 := blk_frozen BKg3.out 3; have hcg9_4 : w8.cell? ⟨g9, 4, none⟩ = some (.slice (some ⟨g7, 0, none⟩) s.length c9) := (blk_cell BKg9.out 4).trans rfl; have hfg9_4 := blk_frozen BKg9.out 4; have xHc0 := Hc0.out; have xHc1 := Hc1.out; have xHc2 := Hc2.out; have xHc3 := Hc3.out; obtain ⟨hcg11_0, hcg11_1, hcg11_2, hcg11_3, hfg11_0, hfg11_1, hfg11_2, hfg11_3⟩ := cs4 BKg11.out; clear tok7))
  (try clear xHc0)
  (try clear xHc1)
  (try clear xHc2)
  (try clear xHc3)
  (try clear hcg3_3 hfg3_3)
  (try clear hcg9_4 hfg9_4)
  (try clear hcg11_0 hfg11_0)
  (try clear hcg11_1 hfg11_1)
  (try clear hcg11_2 hfg11_2)
  (try clear hcg11_3 hfg11_3)
  replace HOT := Aside0.mk (Kd.S_set HOT.out BKg11.out (by decide) 0 (.int .i64 x.f0))
  replace BKg3 := Aside0.mk (blk_far BKg3.out (p := ⟨g11, 0, none⟩) (by show _ ≠ _; have := HZ3.out; have := HZ6.out; have := HZ9.out; have := HWR.out; have := SZ8.out; omega) (.int .i64 x.f0))
  replace BKg6 := Aside0.mk (blk_far BKg6.out (p := ⟨g11, 0, none⟩) (by show _ ≠ _; have := HZ3.out; have := HZ6.out; have := HZ9.out; have := HWR.out; have := SZ8.out; omega) (.int .i64 x.f0))
  replace BKg9 := Aside0.mk (blk_far BKg9.out (p := ⟨g11, 0, none⟩) (by show _ ≠ _; have := HZ3.out; have := HZ6.out; have := HZ9.out; have := HWR.out; have := SZ8.out; omega) (.int .i64 x.f0))
  replace BKg11 := Aside0.mk (blk_put BKg11.out 0 (.int .i64 x.f0) rfl)
  replace HB := Aside0.mk (below_set HB.out (by have := HZ3.out; have := HZ6.out; have := HZ9.out; have := HWR.out; have := SZ8.out; omega : w.heap.size ≤ g11) (j := 0) (v := .int .i64 x.f0))
  replace HOT := Aside0.mk (Kd.S_set HOT.out BKg11.out (by decide) 1 (.int .i64 x.f1))
  replace BKg3 := Aside0.mk (blk_far BKg3.out (p := ⟨g11, 1, none⟩) (by show _ ≠ _; have := HZ3.out; have := HZ6.out; have := HZ9.out; have := HWR.out; have := SZ8.out; omega) (.int .i64 x.f1))
  replace BKg6 := Aside0.mk (blk_far BKg6.out (p := ⟨g11, 1, none⟩) (by show _ ≠ _; have := HZ3.out; have := HZ6.out; have := HZ9.out; have := HWR.out; have := SZ8.out; omega) (.int .i64 x.f1))
  replace BKg9 := Aside0.mk (blk_far BKg9.out (p := ⟨g11, 1, none⟩) (by show _ ≠ _; have := HZ3.out; have := HZ6.out; have := HZ9.out; have := HWR.out; have := SZ8.out; omega) (.int .i64 x.f1))
  replace BKg11 := Aside0.mk (blk_put BKg11.out 1 (.int .i64 x.f1) rfl)
  replace HB := Aside0.mk (below_set HB.out (by have := HZ3.out; have := HZ6.out; have := HZ9.out; have := HWR.out; have := SZ8.out; omega : w.heap.size ≤ g11) (j := 1) (v := .int .i64 x.f1))
  replace HOT := Aside0.mk (Kd.S_set HOT.out BKg11.out (by decide) 2 (.int .i64 x.f2))
  replace BKg3 := Aside0.mk (blk_far BKg3.out (p := ⟨g11, 2, none⟩) (by show _ ≠ _; have := HZ3.out; have := HZ6.out; have := HZ9.out; have := HWR.out; have := SZ8.out; omega) (.int .i64 x.f2))
  replace BKg6 := Aside0.mk (blk_far BKg6.out (p := ⟨g11, 2, none⟩) (by show _ ≠ _; have := HZ3.out; have := HZ6.out; have := HZ9.out; have := HWR.out; have := SZ8.out; omega) (.int .i64 x.f2))
  replace BKg9 := Aside0.mk (blk_far BKg9.out (p := ⟨g11, 2, none⟩) (by show _ ≠ _; have := HZ3.out; have := HZ6.out; have := HZ9.out; have := HWR.out; have := SZ8.out; omega) (.int .i64 x.f2))
  replace BKg11 := Aside0.mk (blk_put BKg11.out 2 (.int .i64 x.f2) rfl)
  replace HB := Aside0.mk (below_set HB.out (by have := HZ3.out; have := HZ6.out; have := HZ9.out; have := HWR.out; have := SZ8.out; omega : w.heap.size ≤ g11) (j := 2) (v := .int .i64 x.f2))
  replace HOT := Aside0.mk (Kd.S_set HOT.out BKg11.out (by decide) 3 (.slice A3 x.f3.length c3))
  replace BKg3 := Aside0.mk (blk_far BKg3.out (p := ⟨g11, 3, none⟩) (by show _ ≠ _; have := HZ3.out; have := HZ6.out; have := HZ9.out; have := HWR.out; have := SZ8.out; omega) (.slice A3 x.f3.length c3))
  replace BKg6 := Aside0.mk (blk_far BKg6.out (p := ⟨g11, 3, none⟩) (by show _ ≠ _; have := HZ3.out; have := HZ6.out; have := HZ9.out; have := HWR.out; have := SZ8.out; omega) (.slice A3 x.f3.length c3))
  replace BKg9 := Aside0.mk (blk_far BKg9.out (p := ⟨g11, 3, none⟩) (by show _ ≠ _; have := HZ3.out; have := HZ6.out; have := HZ9.out; have := HWR.out; have := SZ8.out; omega) (.slice A3 x.f3.length c3))
  replace BKg11 := Aside0.mk (blk_put BKg11.out 3 (.slice A3 x.f3.length c3) rfl)
  replace HB := Aside0.mk (below_set HB.out (by have := HZ3.out; have := HZ6.out; have := HZ9.out; have := HWR.out; have := SZ8.out; omega : w.heap.size ≤ g11) (j := 3) (v := .slice A3 x.f3.length c3))
  have SZ9 := Aside0.mk (show w8.heap.size ≤ ((((w8.setCell ⟨g11, 0, none⟩ (.int .i64 x.f0)).setCell ⟨g11, 1, none⟩ (.int .i64 x.f1)).setCell ⟨g11, 2, none⟩ (.int .i64 x.f2)).setCell ⟨g11, 3, none⟩ (.slice A3 x.f3.length c3)).heap.size from by simp [World.setCell])
  generalize ((((w8.setCell ⟨g11, 0, none⟩ (.int .i64 x.f0)).setCell ⟨g11, 1, none⟩ (.int .i64 x.f1)).setCell ⟨g11, 2, none⟩ (.int .i64 x.f2)).setCell ⟨g11, 3, none⟩ (.slice A3 x.f3.length c3)) = w9 at HB HOT BKg3 BKg6 BKg9 BKg11 SZ9 ⊢
  have hcg3_3 : w9.cell? ⟨g3, 3, none⟩ = some (.int .i64 d) := (blk_cell BKg3.out 3).trans rfl; have hfg3_3 := blk_frozen BKg3.out 3; have hcg9_4 : w9.cell? ⟨g9, 4, none⟩ = some (.slice (some ⟨g7, 0, none⟩) s.length c9) := (blk_cell BKg9.out 4).trans rfl; have hfg9_4 := blk_frozen BKg9.out 4; obtain ⟨hcg11_0, hcg11_1, hcg11_2, hcg11_3, hfg11_0, hfg11_1, hfg11_2, hfg11_3⟩ := cs4 BKg11.out
  (try clear hcg3_3 hfg3_3)
  (try clear hcg9_4 hfg9_4)
  (try clear hcg11_0 hfg11_0)
  (try clear hcg11_1 hfg11_1)
  (try clear hcg11_2 hfg11_2)
  (try clear hcg11_3 hfg11_3)
  have hs : Below w9.heap.size w9 (World.drew w9) := below_drew1 (Below.refl _ _)
  have SZ10 := Aside0.mk (show w9.heap.size ≤ (World.drew w9).heap.size from hs.size)
  replace HOT := Aside0.mk (Kd.S_below HOT.out hs)
  replace BKg3 := Aside0.mk (blk_below BKg3.out hs)
  replace BKg6 := Aside0.mk (blk_below BKg6.out hs)
  replace BKg9 := Aside0.mk (blk_below BKg9.out hs)
  replace BKg11 := Aside0.mk (blk_below BKg11.out hs)
  have n_ := Aside0.mk (below_step HB.out hs)
  clear HB
  have HB := n_
  clear n_ hs
  refine start_ (n := 20) (S := fun w' => w'.cell? ⟨g3, 3, none⟩ = some (.int .i64 d) ∧ w'.cell? ⟨g9, 4, none⟩ = some (.slice (some ⟨g7, 0, none⟩) s.length c9) ∧ w'.cell? ⟨g11, 0, none⟩ = some (.int .i64 x.f0) ∧ w'.cell? ⟨g11, 1, none⟩ = some (.int .i64 x.f1) ∧ w'.cell? ⟨g11, 2, none⟩ = some (.int .i64 x.f2) ∧ w'.cell? ⟨g11, 3, none⟩ = some (.slice A3 x.f3.length c3)) (ds := [19]) #[O,O,O,O,O,O,O,O,O,O,O,O,O,O,O,O,O,O,O,O] (by kernel_rfl) rfl rfl ⟨(blk_cell BKg3.out 3).trans rfl, (blk_cell BKg9.out 4).trans rfl, (blk_cell BKg11.out 0).trans rfl, (blk_cell BKg11.out 1).trans rfl, (blk_cell BKg11.out 2).trans rfl, (blk_cell BKg11.out 3).trans rfl⟩ (fun hHeld => ?_)
  generalize World.drew w9 = w10 at HB HOT BKg3 BKg6 BKg9 BKg11 SZ10 hHeld ⊢
  refine pure_ (i := 0) (N := some 45) (v := ?_) (a' := ?_) #[X,O,O,O,O,O,O,O,O,O,O,O,O,O,O,O,O,O,O,O] rfl rfl (by kernel_rfl) (fun _ _ _ h => h) (Or.inl ⟨by rfl, ?_⟩) ?_ ?_
  rotate_left; (intro w'; go_simp; with_reducible rfl); rotate_left; (simp only [sP]; rfl)
  refine pure_ (i := 2) (N := some 47) (v := ?_) (a' := ?_) #[X,O,X,O,O,O,O,O,O,O,O,O,O,O,O,O,O,O,O,O] rfl rfl (by kernel_rfl) (fun _ _ _ h => h) (Or.inl ⟨by rfl, ?_⟩) ?_ ?_
  rotate_left; (intro w'; go_simp; with_reducible rfl); rotate_left; (simp only [sP]; rfl)
  refine pure_ (i := 4) (N := some 49) (v := ?_) (a' := ?_) #[X,O,X,O,X,O,O,O,O,O,O,O,O,O,O,O,O,O,O,O] rfl rfl (by kernel_rfl) (fun _ _ _ h => h) (Or.inl ⟨by rfl, ?_⟩) ?_ ?_
  rotate_left; (intro w'; go_simp; with_reducible rfl); rotate_left; (simp only [sP]; rfl)
  refine pure_ (i := 5) (N := some 50) (v := ?_) (a' := ?_) #[X,O,X,O,X,X,O,O,O,O,O,O,O,O,O,O,O,O,O,O] rfl rfl (by kernel_rfl) (fun _ _ _ h => h) (Or.inl ⟨by rfl, ?_⟩) ?_ ?_
  rotate_left; (intro w'; go_simp; with_reducible rfl); rotate_left; (simp only [sP]; rfl)
  refine pure_ (i := 8) (N := some 53) (v := ?_) (a' := ?_) #[X,O,X,O,X,X,O,O,X,O,O,O,O,O,O,O,O,O,O,O] rfl rfl (by kernel_rfl) (fun _ _ _ h => h) (Or.inl ⟨by rfl, ?_⟩) ?_ ?_
  rotate_left; (intro w'; go_simp; with_reducible rfl); rotate_left; (simp only [sP]; rfl)
  refine pure_ (i := 12) (N := some 57) (v := ?_) (a' := ?_) #[X,O,X,O,X,X,O,O,X,O,O,O,X,O,O,O,O,O,O,O] rfl rfl (by kernel_rfl) (fun _ _ _ h => h) (Or.inl ⟨by rfl, ?_⟩) ?_ ?_
  rotate_left; (intro w'; go_simp; with_reducible rfl); rotate_left; (simp only [sP]; rfl)
  refine pure_ (i := 15) (N := some 60) (v := ?_) (a' := ?_) #[X,O,X,O,X,X,O,O,X,O,O,O,X,O,O,X,O,O,O,O] rfl rfl (by kernel_rfl) (fun _ _ _ h => h) (Or.inl ⟨by rfl, ?_⟩) ?_ ?_
  rotate_left; (intro w'; go_simp; with_reducible rfl); rotate_left; (simp only [sP]; rfl)
  refine take_ (i := 1) (N := some 46) (v := ?_) (a' := ?_) #[X,X,X,O,X,X,O,O,X,O,O,O,X,O,O,X,O,O,O,O] rfl rfl (by kernel_rfl) (fun _ _ _ h => h) (Or.inl ⟨by rfl, ?_⟩) hHeld ?_ ?_
  rotate_left; (rintro w' ⟨s0, s1, s2, s3, s4, s5⟩; go_simp; with_reducible rfl); rotate_left; (simp only [sP]; rfl)
  refine take_ (i := 3) (N := some 48) (v := ?_) (a' := ?_) #[X,X,X,X,X,X,O,O,X,O,O,O,X,O,O,X,O,O,O,O] rfl rfl (by kernel_rfl) (fun _ _ _ h => h) (Or.inl ⟨by rfl, ?_⟩) hHeld ?_ ?_
  rotate_left; (rintro w' ⟨s0, s1, s2, s3, s4, s5⟩; go_simp; with_reducible rfl); rotate_left; (simp only [sP]; rfl)
  refine take_ (i := 6) (N := some 51) (v := ?_) (a' := ?_) #[X,X,X,X,X,X,X,O,X,O,O,O,X,O,O,X,O,O,O,O] rfl rfl (by kernel_rfl) (fun _ _ _ h => h) (Or.inl ⟨by rfl, ?_⟩) hHeld ?_ ?_
  rotate_left; (rintro w' ⟨s0, s1, s2, s3, s4, s5⟩; go_simp; with_reducible rfl); rotate_left; (simp only [sP]; rfl)
  refine pure_ (i := 7) (N := some 52) (v := ?_) (a' := ?_) #[X,X,X,X,X,X,X,X,X,O,O,O,X,O,O,X,O,O,O,O] rfl rfl (by kernel_rfl) (fun _ _ _ h => h) (Or.inl ⟨by rfl, ?_⟩) ?_ ?_
  rotate_left; (intro w'; go_simp; with_reducible rfl); rotate_left; (simp only [sP]; rfl)
  refine take_ (i := 9) (N := some 54) (v := ?_) (a' := ?_) #[X,X,X,X,X,X,X,X,X,X,O,O,X,O,O,X,O,O,O,O] rfl rfl (by kernel_rfl) (fun _ _ _ h => h) (Or.inl ⟨by rfl, ?_⟩) hHeld ?_ ?_
  rotate_left; (rintro w' ⟨s0, s1, s2, s3, s4, s5⟩; go_simp; with_reducible rfl); rotate_left; (simp only [sP]; rfl)
  refine pure_ (i := 10) (N := some 55) (v := ?_) (a' := ?_) #[X,X,X,X,X,X,X,X,X,X,X,O,X,O,O,X,O,O,O,O] rfl rfl (by kernel_rfl) (fun _ _ _ h => h) (Or.inl ⟨by rfl, ?_⟩) ?_ ?_
  rotate_left; (intro w'; go_simp; with_reducible rfl); rotate_left; (simp only [sP]; rfl)
  refine pure_ (i := 11) (N := some 56) (v := ?_) (a' := ?_) #[X,X,X,X,X,X,X,X,X,X,X,X,X,O,O,X,O,O,O,O] rfl rfl (by kernel_rfl) (fun _ _ _ h => h) (Or.inl ⟨by rfl, ?_⟩) ?_ ?_
  rotate_left; (intro w'; go_simp; with_reducible rfl); rotate_left; (simp only [sP]; rfl)
  refine take_ (i := 13) (N := some 58) (v := ?_) (a' := ?_) #[X,X,X,X,X,X,X,X,X,X,X,X,X,X,O,X,O,O,O,O] rfl rfl (by kernel_rfl) (fun _ _ _ h => h) (Or.inl ⟨by rfl, ?_⟩) hHeld ?_ ?_
  rotate_left; (rintro w' ⟨s0, s1, s2, s3, s4, s5⟩; go_simp; with_reducible rfl); rotate_left; (simp only [sP]; rfl)
  refine pure_ (i := 14) (N := some 59) (v := ?_) (a' := ?_) #[X,X,X,X,X,X,X,X,X,X,X,X,X,X,X,X,O,O,O,O] rfl rfl (by kernel_rfl) (fun _ _ _ h => h) (Or.inl ⟨by rfl, ?_⟩) ?_ ?_
  rotate_left; (intro w'; go_simp; with_reducible rfl); rotate_left; (simp only [sP]; rfl)
  refine take_ (i := 16) (N := some 61) (v := ?_) (a' := ?_) #[X,X,X,X,X,X,X,X,X,X,X,X,X,X,X,X,X,O,O,O] rfl rfl (by kernel_rfl) (fun _ _ _ h => h) (Or.inl ⟨by rfl, ?_⟩) hHeld ?_ ?_
  rotate_left; (rintro w' ⟨s0, s1, s2, s3, s4, s5⟩; go_simp; with_reducible rfl); rotate_left; (simp only [sP]; rfl)
  refine one_ (i := 17) (N := some 62) #[X,X,X,X,X,X,X,X,X,X,X,X,X,X,X,X,X,X,O,O] rfl rfl (by kernel_rfl) (by decide) (fun K hK => ?_)
  refine goes_ Try.func46 (by kernel_rfl) rfl #[.slice A3 x.f3.length c3] (by rfl) rfl rfl (by simp only [List.map_toArray, List.map_cons, List.map_nil]; rfl) ?_
  with_reducible refine (image_taken.calls A3 c3 x.f3 x.f3 _ ?s1 ALE.out AC.out).mono ?_
  (case s1 => exact Kd.C_below HCx.out (by repeat (first | exact HB.out | apply below_alloc | apply pw_below_drewN | apply below_drew1)))
  rintro e w11 ⟨v5, rfl, hv, hb⟩
  refine ⟨_, rfl, ?_⟩
  have hs : Below w10.heap.size w10 w11 := below_step (by repeat (first | exact Below.refl _ _ | apply below_alloc | apply pw_below_drewN | apply below_drew1)) hb
  have hl : w10.heap.size ≤ _ := below_size (w := w10) (by repeat (first | exact Below.refl _ _ | apply below_alloc | apply pw_below_drewN | apply below_drew1))
  have SZ11 := Aside0.mk (show w10.heap.size ≤ w11.heap.size from hs.size)
  replace HOT := Aside0.mk (Kd.S_below HOT.out hs)
  replace BKg3 := Aside0.mk (blk_below BKg3.out hs)
  replace BKg6 := Aside0.mk (blk_below BKg6.out hs)
  replace BKg9 := Aside0.mk (blk_below BKg9.out hs)
  replace BKg11 := Aside0.mk (blk_below BKg11.out hs)
  have HV := Aside0.mk (show Kd.R (Kd.int .u8) 5 w11 w.heap.size (fun q => wr.heap.size ≤ q ∧ q ≠ g7) v5 x.f3 from Kd.R_mono (Kd.R_lower (Kd.R_bound hv) (by have h1 := hl; have h3 := HG7.out; have := HZ3.out; have := HZ6.out; have := HZ9.out; have := HWR.out; have := SZ8.out; have := SZ9.out; have := SZ10.out; omega)) (fun q hk => ⟨by have h2 := hk.2.1; have h1 := hl; have h3 := HG7.out; have := HZ3.out; have := HZ6.out; have := HZ9.out; have := HWR.out; have := SZ8.out; have := SZ9.out; have := SZ10.out; omega, by have h2 := hk.2.1; have h1 := hl; have h3 := HG7.out; have := HZ3.out; have := HZ6.out; have := HZ9.out; have := HWR.out; have := SZ8.out; have := SZ9.out; have := SZ10.out; omega⟩))
  clear hv
  obtain ⟨A5, c5, e5_⟩ := Kd.R_slice HV.out
  subst e5_
  have hqs := HIX.out
  obtain ⟨u0, hcu, hfu⟩ := R_cell_row (Kd.S_R HOT.out) (i := i) hqs
  clear hqs
  have n_ := Aside0.mk (below_step HB.out hs)
  clear HB
  have HB := n_
  clear n_ hs hb
  (try clear hl)
  refine hK.out _ _ ⟨(blk_cell BKg3.out 3).trans rfl, (blk_cell BKg9.out 4).trans rfl, (blk_cell BKg11.out 0).trans rfl, (blk_cell BKg11.out 1).trans rfl, (blk_cell BKg11.out 2).trans rfl, (blk_cell BKg11.out 3).trans rfl⟩ (fun hHeld => ?_)
  clear hK K
  refine norm_ (a' := ?_) ?_ ?_
  rotate_left
  ·
   show Act.put _ (some 62) _ = _
   simp only [sP]
   rfl
  refine pure_ (i := 18) (N := some 63) (v := ?_) (a' := ?_) #[X,X,X,X,X,X,X,X,X,X,X,X,X,X,X,X,X,X,X,O] rfl rfl (by kernel_rfl) (fun _ _ _ h => h) (Or.inl ⟨by rfl, ?_⟩) ?_ ?_
  rotate_left; (intro w'; go_simp; with_reducible rfl); rotate_left; (simp only [sP]; rfl)
  refine last_ (i := 19) (N := none) #[X,X,X,X,X,X,X,X,X,X,X,X,X,X,X,X,X,X,X,X] rfl rfl (by kernel_rfl) (by decide) (fun K hK => ?_)
  refine skip_ (w1 := ?_) (by rfl) rfl ?_ ?_
  rotate_left
  ·
   go_simp
   rfl
  refine hK.out _ _ ?_
  clear hK K
  refine done_ (by kernel_rfl) ?_
  have hcg3_3 : w11.cell? ⟨g3, 3, none⟩ = some (.int .i64 d) := (blk_cell BKg3.out 3).trans rfl; have hfg3_3 := blk_frozen BKg3.out 3; have hcg9_4 : w11.cell? ⟨g9, 4, none⟩ = some (.slice (some ⟨g7, 0, none⟩) s.length c9) := (blk_cell BKg9.out 4).trans rfl; have hfg9_4 := blk_frozen BKg9.out 4; obtain ⟨hcg11_0, hcg11_1, hcg11_2, hcg11_3, hfg11_0, hfg11_1, hfg11_2, hfg11_3⟩ := cs4 BKg11.out
  clear hcu hfu
  go_wp2_with (fail)
  have hkk := HK.out
  have hax := AX.out
  have hnn := HNN.out
  have hln := HLN.out
  have hp := S_put_row (ok := fun _ => True) (okg := fun q => wr.heap.size ≤ q ∧ q ≠ g7) (Kd.S_mono HOT.out (fun k hk => ⟨trivial, fun h => Nat.lt_irrefl _ (Nat.lt_of_lt_of_le hk h.1)⟩)) (i := i) HIX.out HV.out (fun k hk => ⟨trivial, hk.2⟩)
  go_roundg (gk - 1)
  case measure => omega
  case rel =>
   refine ⟨k + 1, st.set i x.f3, by rw [show wrap64 ((k : Int) + 1) = ((k + 1 : Nat) : Int) by unfold wrap64; omega], Aside0.mk ⟨by omega, by omega⟩, Aside0.mk (blk_grown BKg3.out hp.2 (fun e => HN3.out (by injection e))), Aside0.mk (blk_grown BKg6.out hp.2 (fun e => HN6.out (by injection e))), Aside0.mk (blk_grown BKg9.out hp.2 (fun e => HN9.out (by injection e))), Aside0.mk ⟨hp.1, HP2.out⟩, Aside0.mk (below_set HB.out HG7.out.1)⟩
theorem image_After.calls (k : Nat) (a0_0 : Int) (a0_1 : Int) (a0_2 : Int) (a0_3 : Int) (A0_4 : Option Addr) (c0_4 : Nat) (l0_4 : List (List Int)) (A1 : Option Addr) (c1 : Nat) (l1 : List (S35)) (a2 : Int) (r1 : Int) (r2 : Int) (r3 : Int) (r4 : Int) (r5 : List (List Int)) (r6 : Int) (w : World) (hr0_4 : Kd.C (Kd.slice 5 (Kd.int .u8)) w A0_4 l0_4.length l0_4) (hc0_4 : l0_4.length ≤ c0_4) (hr1 : Kd.C k35 w A1 l1.length l1) (hc1 : l1.length ≤ c1) (h : image_After.f k a0_0 a0_1 a0_2 a0_3 l0_4 l1 a2 = some (r1, r2, r3, r4, r5, r6)) :
  Calls Try.prog 13 #[.agg #[.int .i64 a0_0, .int .i64 a0_1, .int .i64 a0_2, .int .i64 a0_3, .slice A0_4 l0_4.length c0_4], .slice A1 l1.length c1, .int .i64 a2] w fun e w' => ∃ v4_ : Value, e = .returned (.tuple #[.agg #[.int .i64 r1, .int .i64 r2, .int .i64 r3, .int .i64 r4, v4_], .int .i64 r6]) ∧ Kd.S (Kd.slice 5 (Kd.int .u8)) 33 w' w.heap.size (fun _ => True) v4_ r5 ∧ Below w.heap.size w w' := by
 unfold image_After.f at h
 obtain ⟨e, he, h⟩ := Option.bind_eq_some_iff.mp h
 by_cases h0 : e = 0
 ·
  subst h0
  rw [if_pos rfl] at h
  by_cases h1 : 65536 < l1.length
  ·
   rw [if_pos h1] at h
   injection h with h
   simp only [Prod.mk.injEq] at h
   obtain ⟨rfl, rfl, rfl, rfl, rfl, rfl⟩ := h
   exact After_long k a0_0 a0_1 a0_2 a0_3 A0_4 c0_4 l0_4 A1 c1 l1 a2 w hr0_4 hc0_4 hr1 hc1 he h1
  ·
   rw [if_neg h1] at h
   by_cases h2 : l1.all (mayB a0_0 a0_1 a0_2 a0_3) = true
   ·
    rw [if_pos h2] at h
    by_cases h3 : a2 < 0 ∨ (l1.length : Int) < a2
    ·
     rw [if_pos h3] at h
     injection h with h
     simp only [Prod.mk.injEq] at h
     obtain ⟨rfl, rfl, rfl, rfl, rfl, rfl⟩ := h
     rcases h3 with h3 | h3
     ·
      exact After_less k a0_0 a0_1 a0_2 a0_3 A0_4 c0_4 l0_4 A1 c1 l1 a2 w hr0_4 hc0_4 hr1 hc1 he (by omega) h2 h3
     ·
      exact After_more k a0_0 a0_1 a0_2 a0_3 A0_4 c0_4 l0_4 A1 c1 l1 a2 w hr0_4 hc0_4 hr1 hc1 he (by omega) h2 h3
    ·
     rw [if_neg h3] at h
     obtain ⟨⟨p, q, u, v, s⟩, ht, h⟩ := Option.bind_eq_some_iff.mp h
     obtain ⟨r, hp, h⟩ := Option.bind_eq_some_iff.mp h
     injection h with h
     simp only [Prod.mk.injEq] at h
     obtain ⟨rfl, rfl, rfl, rfl, rfl, rfl⟩ := h
     exact After_good k a0_0 a0_1 a0_2 a0_3 A0_4 c0_4 l0_4 A1 c1 l1 a2 w hr0_4 hc0_4 hr1 hc1 he (by omega) h2 (by omega) p q u v s _ ht hp
   ·
    rw [if_neg h2] at h
    injection h with h
    simp only [Prod.mk.injEq] at h
    obtain ⟨rfl, rfl, rfl, rfl, rfl, rfl⟩ := h
    exact After_may k a0_0 a0_1 a0_2 a0_3 A0_4 c0_4 l0_4 A1 c1 l1 a2 w hr0_4 hc0_4 hr1 hc1 he (by omega) (by simpa using h2)
 ·
  rw [if_neg h0] at h
  injection h with h
  simp only [Prod.mk.injEq] at h
  obtain ⟨rfl, rfl, rfl, rfl, rfl, rfl⟩ := h
  exact After_check k a0_0 a0_1 a0_2 a0_3 A0_4 c0_4 l0_4 A1 c1 l1 a2 w hr0_4 hc0_4 hr1 hc1 _ he h0

end Go.Proofs.Ytcnmocbiekfpbaa.P
