import Derived.Test.YtemmhgfjfbdggaaP08Z
import Derived.Test.YtemmhgfjfbdggaaPx3
import Derived.Test.YtemmhgfjfbdggaaPx4
import Derived.Test.YtemmhgfjfbdggaaPx5
import Derived.Test.YtemmhgfjfbdggaaPx6
import Derived.Test.YtemmhgfjfbdggaaM8b
import Derived.Test.YtemmhgfjfbdggaaM8h
import Derived.Test.YtemmhgfjfbdggaaP0Brief
namespace Go.Proofs.Ytemmhgfjfbdggaa.P
open Go.RowKit Go.Proofs.YtemmhgfjfbdggaaW.PrintWords Go.Proofs.YtemmhgfjfbdggaaW.PrintLast Go.Proofs.YtemmhgfjfbdggaaW.PrintMore
attribute [local go_sem] max2_int min2_int max_two min_two max_three min_three max_four min_four
set_option linter.unusedVariables false
set_option linter.unusedSimpArgs false
theorem N_put_row {α : Type} {d : Kd α} {e e' base g n cap i : Nat} {ok okv : Nat → Prop} {W : World} {xs : List (List α)} {x : List α} {v : Value}
  (h : (Kd.slice e' d).N e W base ok (.slice (some ⟨g, 0, none⟩) n cap) xs) (hi : i < xs.length) (hv : d.V e' W base okv v x) (hok : ∀ k, okv k → ok k ∧ k ≠ g) :
  (Kd.slice e' d).N e (W.setCell ⟨g, i, none⟩ v) base ok (.slice (some ⟨g, 0, none⟩) n cap) (xs.set i x) ∧ W.grownBy (W.setCell ⟨g, i, none⟩ v) (some g) := by
 obtain ⟨h0, rows, hl, hR, hf⟩ := h
 obtain rfl := (Kd.R_reads' hR).1
 obtain ⟨r0, inner, hown, hr⟩ := hR
 have hs := hown.stored i v
 obtain ⟨A, c, rfl, hle, hF⟩ := hv
 have hFK : Kd.FK (Kd.slice e' d) W okv x [.slice A x.length c] := fun W' hW => ⟨A, c, rfl, hle, hF W' hW⟩
 have hx := Kd.FK_raw hFK
 have hi2 : i < rows.length := by omega
 have hrep := Kd.reps_set hr hi2 hx rfl
 have hil : i < inner.length := by
  have h1 : inner.length = rows.length * 1 := hr.1
  omega
 have e2 : inner.set i (.slice A x.length c) = inner.take (i * 1) ++ [.slice A x.length c] ++ inner.drop (i * 1 + [Value.slice A x.length c].length) := by
  rw [List.set_eq_take_append_cons_drop, if_pos hil]
  simp
 have hw := Kd.N_written (d := Kd.slice e' d) (i := (i : Int)) (x' := x) (c' := [.slice A x.length c]) (w1 := W.setCell ⟨g, i, none⟩ (.slice A x.length c)) h0 hl hf (by
  rw [Int.toNat_natCast]
  refine ⟨fun _ _ => trivial, inner.set i (.slice A x.length c), by rw [List.length_set]; exact hs.1, ?_⟩
  rw [e2]
  exact hrep) hs.2 hFK hok
 rw [Int.toNat_natCast] at hw
 exact ⟨hw, hs.2⟩
def RefS (ok : Nat → Prop) (r : Nat) (Ag : Option Addr) (m cg : Nat) (k : Nat) : Prop := ok k ∧ k ≠ r ∧ some k ≠ (Value.slice Ag m cg).ownBlock
def RefO (W : World) (base : Nat) (ok : Nat → Prop) (r : Nat) (As : Option Addr) (n cs : Nat) (Ag : Option Addr) (m cg : Nat) (a b c d : Int) (slots : List (List Int)) (gone : List Bool) (off : Bool) (cut wr : Int) : Prop :=
 W.heap[r]? = some (.cells #[.int .i64 a, .int .i64 b, .int .i64 c, .int .i64 d, .slice As n cs, .bool off, .int .i64 cut, .slice Ag m cg, .int .i64 wr] 80 (0, 0)) ∧
 (Kd.slice 5 (Kd.int .u8)).N 45 W base (RefS ok r Ag m cg) (.slice As n cs) slots ∧ Kd.R Kd.bool 4 W base ok (.slice Ag m cg) gone ∧
 ok r ∧ ∀ k, ok k → base ≤ k ∧ k < W.heap.size
section
variable {W W2 w : World} {base : Nat} {ok ok' S : Nat → Prop} {r n cs m cg : Nat} {As Ag : Option Addr} {a b c d : Int} {slots : List (List Int)} {gone : List Bool} {off : Bool} {cut wr : Int}
theorem RefO.ok_ (h : RefO W base ok r As n cs Ag m cg a b c d slots gone off cut wr) : ok r := h.2.2.2.1
theorem RefO.bd (h : RefO W base ok r As n cs Ag m cg a b c d slots gone off cut wr) : ∀ k, ok k → base ≤ k ∧ k < W.heap.size := h.2.2.2.2
theorem RefO.grow (h : RefO W base ok r As n cs Ag m cg a b c d slots gone off cut wr) (hok : ∀ k, ok k → ok' k) (hb : ∀ k, ok' k → base ≤ k ∧ k < W.heap.size) : RefO W base ok' r As n cs Ag m cg a b c d slots gone off cut wr :=
 ⟨h.1, Kd.N_mono h.2.1 (fun k hk => ⟨hok k hk.1, hk.2⟩), Kd.R_mono h.2.2.1 hok, hok _ h.2.2.2.1, hb⟩
theorem RefO.kept (h : RefO W base ok r As n cs Ag m cg a b c d slots gone off cut wr) (hk : Kept W W2 S) (hne : ∀ k, ok k → ¬ S k) : RefO W2 base ok r As n cs Ag m cg a b c d slots gone off cut wr :=
 ⟨blk_kept h.1 hk (hne _ h.2.2.2.1), Kd.N_kept h.2.1 hk (fun k hk => hne k hk.1), Kd.R_kept h.2.2.1 hk hne, h.2.2.2.1, fun k hk' => ⟨(h.2.2.2.2 k hk').1, Nat.lt_of_lt_of_le (h.2.2.2.2 k hk').2 hk.1⟩⟩
theorem RefO.below (h : RefO W base ok r As n cs Ag m cg a b c d slots gone off cut wr) (hb : Below W.heap.size W W2) : RefO W2 base ok r As n cs Ag m cg a b c d slots gone off cut wr :=
 h.kept (Kept.of_below hb (fun _ => False)) (fun _ _ hf => hf)
theorem RefO.lens (h : RefO W base ok r As n cs Ag m cg a b c d slots gone off cut wr) : n = slots.length ∧ n ≤ cs ∧ m = gone.length ∧ m ≤ cg :=
 ⟨(Kd.N_reads' h.2.1).1, (Kd.N_reads' h.2.1).2.1, (Kd.R_reads' h.2.2.1).1, (Kd.R_reads' h.2.2.1).2.1⟩
theorem RefO.slotsC (h : RefO W base ok r As n cs Ag m cg a b c d slots gone off cut wr) : Kd.C (Kd.slice 5 (Kd.int .u8)) W As slots.length slots := by
 have := Kd.N_reads' h.2.1
 rw [this.1] at this
 exact this.2.2
theorem RefO.goneC (h : RefO W base ok r As n cs Ag m cg a b c d slots gone off cut wr) : Kd.C Kd.bool W Ag gone.length gone := (Kd.R_reads' h.2.2.1).2.2
theorem RefO.low (h : RefO W base ok r As n cs Ag m cg a b c d slots gone off cut wr) : base ≤ W.heap.size := Nat.le_of_lt (Nat.lt_of_le_of_lt (h.bd r h.ok_).1 (h.bd r h.ok_).2)
theorem RefO.base_ (h : RefO W base ok r As n cs Ag m cg a b c d slots gone off cut wr) : ∀ k, ok k → base ≤ k := fun k hk => (h.bd k hk).1
theorem RefO.setD (h : RefO W base ok r As n cs Ag m cg a b c d slots gone off cut wr) {off' : Bool} {cut' wr' : Int} (j : Nat) (u : Value)
  (e : (#[.int .i64 a, .int .i64 b, .int .i64 c, .int .i64 d, .slice As n cs, .bool off, .int .i64 cut, .slice Ag m cg, .int .i64 wr] : Array Value).setIfInBounds j u = #[.int .i64 a, .int .i64 b, .int .i64 c, .int .i64 d, .slice As n cs, .bool off', .int .i64 cut', .slice Ag m cg, .int .i64 wr']) :
  RefO (W.setCell ⟨r, j, none⟩ u) base ok r As n cs Ag m cg a b c d slots gone off' cut' wr' :=
 ⟨blk_put h.1 j u e, Kd.N_far h.2.1 (p := ⟨r, j, none⟩) (fun k hk => hk.2.1) u, Kd.R_set h.2.2.1 h.1 (by decide) j u, h.2.2.2.1, fun k hk => ⟨(h.bd k hk).1, by have := (h.bd k hk).2; simpa [World.setCell] using this⟩⟩
theorem RefO.setSlot {g i : Nat} {v : Value} {x : List Int} {okv : Nat → Prop} (h : RefO W base ok r (some ⟨g, 0, none⟩) n cs Ag m cg a b c d slots gone off cut wr) (hi : i < slots.length) (hv : (Kd.int .u8).V 5 W base okv v x) (hok : ∀ k, okv k → RefS ok r Ag m cg k ∧ k ≠ g) :
  RefO (W.setCell ⟨g, i, none⟩ v) base ok r (some ⟨g, 0, none⟩) n cs Ag m cg a b c d (slots.set i x) gone off cut wr ∧ ok g := by
 have hg : RefS ok r Ag m cg g := h.2.1.1 g rfl
 have hp := N_put_row h.2.1 hi hv hok
 obtain ⟨cells, hcells⟩ := Kd.N_typed h.2.1 g rfl
 exact ⟨⟨blk_far h.1 (p := ⟨g, i, none⟩) hg.2.1.symm v, hp.1, Kd.R_set h.2.2.1 hcells (by decide) i v, h.2.2.2.1, fun k hk => ⟨(h.bd k hk).1, by have := (h.bd k hk).2; simpa [World.setCell] using this⟩⟩, hg.1⟩
theorem RefO.setGone {g i : Nat} {x : Bool} (h : RefO W base ok r As n cs (some ⟨g, 0, none⟩) m cg a b c d slots gone off cut wr) :
  RefO (W.setCell ⟨g, i, none⟩ (.bool x)) base ok r As n cs (some ⟨g, 0, none⟩) m cg a b c d slots (gone.set i x) off cut wr ∧ ok g := by
 have hg : ok g := h.2.2.1.1 g rfl
 have e := h.lens.2.2.1
 have hr := h.2.2.1
 rw [e] at hr
 have hp := Kd.R_put hr (i : Int) x
 rw [Int.toNat_natCast] at hp
 have hDg : r ≠ g := fun e => Kd.R_ne h.2.2.1 h.1 (by decide) (by rw [e]; rfl)
 refine ⟨⟨blk_far h.1 (p := ⟨g, i, none⟩) hDg _, Kd.N_far h.2.1 (p := ⟨g, i, none⟩) (fun k hk e => hk.2.2 (by rw [e]; rfl)) _, ?_, h.2.2.2.1, fun k hk => ⟨(h.bd k hk).1, by have := (h.bd k hk).2; simpa [World.setCell] using this⟩⟩, hg⟩
 rw [e]
 exact hp.1
theorem RefO.gr (h : RefO W base ok' r As n cs Ag m cg a b c d slots gone off cut wr) (hb : base ≤ w.heap.size) (hs : ∀ k, ok' k → ok k ∨ w.heap.size ≤ k) (hok : ∀ k, ok k → base ≤ k) : RefO W base (Gr ok w W) r As n cs Ag m cg a b c d slots gone off cut wr :=
 h.grow (fun k hk => ⟨(h.bd k hk).2, hs k hk⟩) (fun k hk => ⟨hk.2.elim (hok k) (Nat.le_trans hb), hk.1⟩)
theorem RefO.slotCell {g i : Nat} (h : RefO W base ok r (some ⟨g, 0, none⟩) n cs Ag m cg a b c d slots gone off cut wr) (hi : i < slots.length) : ∃ (A : Option Addr) (cc : Nat), W.cell? ⟨g, i, none⟩ = some (.slice A (slots.getD i []).length cc) ∧ W.frozen? ⟨g, i, none⟩ = false ∧ (slots.getD i []).length ≤ cc ∧ Kd.C (Kd.int .u8) W A (slots.getD i []).length (slots.getD i []) := by
 obtain ⟨ad, x, e, he, hx, B, cc, hc, hle, hC⟩ := bytes_elem h.slotsC i hi
 injection e with e
 subst e
 have ex : x = slots.getD i [] := by
  have h1 := List.take_succ_eq_append_getElem hi
  rw [he] at h1
  have h2 := List.append_cancel_left h1
  injection h2 with h3 _
  rw [h3, List.getD_eq_getElem?_getD, List.getElem?_eq_getElem hi]
  rfl
 subst ex
 obtain ⟨cells, hcells⟩ := Kd.N_typed h.2.1 g rfl
 refine ⟨B, cc, ?_, blk_frozen hcells i, hle, hC⟩
 have : (⟨g, 0, none⟩ : Addr).add i = ⟨g, i, none⟩ := by
  unfold Addr.add
  by_cases h0 : i = 0
  ·
   subst h0; simp
  ·
   rw [if_neg h0]; simp
 rw [← this]
 exact hc
end
end Go.Proofs.Ytemmhgfjfbdggaa.P
namespace Go.Proofs.Ytemmhgfjfbdggaa.P
open Go.RowKit Go.Proofs.YtemmhgfjfbdggaaW.PrintWords Go.Proofs.YtemmhgfjfbdggaaW.PrintLast Go.Proofs.YtemmhgfjfbdggaaW.PrintMore
attribute [local go_sem] max2_int min2_int max_two min_two max_three min_three max_four min_four
set_option linter.unusedVariables false
set_option linter.unusedSimpArgs false
def IsB (l : List Int) : Prop := ∀ x ∈ l, 0 ≤ x ∧ x < 256
theorem strOfNums_size (l : List Int) : (strOfNums l).size = l.length := by
 unfold strOfNums
 simp [ByteArray.size]
theorem bytesOf_str {l : List Int} (hB : IsB l) : bytesOf (strOfNums l) = l := by
 unfold bytesOf strOfNums
 simp only [List.map_map]
 conv => rhs; rw [← List.map_id l]
 refine List.map_congr_left fun x hx => ?_
 have := hB x hx
 simp only [Function.comp, UInt8.toNat_ofNat', id]
 omega
theorem there_ev {a b c d : Int} {m : Nat} (hm : (m : Int) = a + b) (hm2 : m ≤ 16) (hd : 0 ≤ d ∧ d ≤ 4096) (x y z : Int) : twoslotref08_There.f a b c d x y z = some (atOf m d x y z) := by
 have hw : wrap64 (a + b) = a + b := by unfold wrap64; omega
 unfold twoslotref08_There.f twoslotref06_N.f atOf
 rw [Option.bind_some, hw, hm]
 by_cases g1 : x < 0
 ·
  rw [if_pos g1, if_pos (.inl g1)]
 ·
  rw [if_neg g1]
  by_cases g2 : x ≥ a + b
  ·
   rw [if_pos g2, if_pos (.inr (.inl g2))]
  ·
   rw [if_neg g2]
   by_cases g3 : y < 0
   ·
    rw [if_pos g3, if_pos (.inr (.inr (.inl g3)))]
   ·
    rw [if_neg g3]
    by_cases g4 : y ≥ d
    ·
     rw [if_pos g4, if_pos (.inr (.inr (.inr (.inl g4))))]
    ·
     rw [if_neg g4]
     by_cases g5 : z < 0
     ·
      rw [if_pos g5, if_pos (.inr (.inr (.inr (.inr (.inl g5)))))]
     ·
      rw [if_neg g5]
      by_cases g6 : z > 1
      ·
       rw [if_pos g6, if_pos (.inr (.inr (.inr (.inr (.inr g6)))))]
      ·
       rw [if_neg g6, if_neg (by omega)]
       have l0 : 0 ≤ x * d := Int.mul_nonneg (by omega) hd.1
       have l1 : x * d ≤ 16 * d := Int.mul_le_mul_of_nonneg_right (by omega) hd.1
       rw [show wrap64 (x * d) = x * d from by unfold wrap64; omega, show wrap64 (x * d + y) = x * d + y from by unfold wrap64; omega, show wrap64 ((x * d + y) * 2) = (x * d + y) * 2 from by unfold wrap64; omega, show wrap64 ((x * d + y) * 2 + z) = (x * d + y) * 2 + z from by unfold wrap64; omega]
theorem size8_ev {a b c d : Int} {m : Nat} (hm : (m : Int) = a + b) (hm2 : m ≤ 16) : twoslotref06_Size.f a b c d = some (sizeOf08 a b c) := by
 unfold twoslotref06_Size.f twoslotref06_N.f sizeOf08
 rw [Option.bind_some, show wrap64 (a + b) = a + b from by unfold wrap64; omega]
theorem bytes8_ev {x : List Int} (h : IsB x) (hl : x.length ≤ 1048576) : twoslotref08_Bytes.f x = some x := by
 unfold twoslotref08_Bytes.f
 by_cases h0 : (x.length : Int) = 0
 ·
  obtain rfl : x = [] := List.eq_nil_of_length_eq_zero (by omega)
  rfl
 ·
  rw [if_neg h0]
  have hc : conv_bytes.f (strOfNums x) = some x := by
   unfold conv_bytes.f
   rw [if_pos (by rw [strOfNums_size]; omega), bytesOf_str h]
  rw [hc]
  rfl
end Go.Proofs.Ytemmhgfjfbdggaa.P
namespace Go.Proofs.Ytemmhgfjfbdggaa.P
open Go.RowKit Go.Proofs.YtemmhgfjfbdggaaW.PrintWords Go.Proofs.YtemmhgfjfbdggaaW.PrintLast Go.Proofs.YtemmhgfjfbdggaaW.PrintMore
attribute [local go_sem] max2_int min2_int max_two min_two max_three min_three max_four min_four
set_option linter.unusedVariables false
set_option linter.unusedSimpArgs false
end Go.Proofs.Ytemmhgfjfbdggaa.P
namespace Go.Proofs.Ytemmhgfjfbdggaa.P
open Go.RowKit Go.Proofs.YtemmhgfjfbdggaaW.PrintWords Go.Proofs.YtemmhgfjfbdggaaW.PrintLast Go.Proofs.YtemmhgfjfbdggaaW.PrintMore
attribute [local go_sem] max2_int min2_int max_two min_two max_three min_three max_four min_four
set_option linter.unusedVariables false
set_option linter.unusedSimpArgs false
set_option maxHeartbeats 8000000 in
set_option maxRecDepth 100000 in
theorem Gone_walk (g : Nat) (a b c d : Int) (off : Bool) (cut wr0 : Int) (A4 A7 : Option Addr) (n4 c4 c7 : Nat) (gone : List Bool) (w : World) (hD : w.heap[g]? = some (.cells #[.int .i64 a, .int .i64 b, .int .i64 c, .int .i64 d, .slice A4 n4 c4, .bool off, .int .i64 cut, .slice A7 gone.length c7, .int .i64 wr0] 80 (0, 0))) (hG : Kd.C Kd.bool w A7 gone.length gone) (hl : gone.length ≤ 1000000) : Calls Try.prog 43 #[.pointer (some ⟨g, 0, none⟩)] w fun e w' => ∃ v : Value, e = .returned v ∧ Kd.R (Kd.int .i64) 3 w' w.heap.size (fun _ => True) v (wipedOf gone.length gone) ∧ Below w.heap.size w w' := by
 have HB := Aside0.mk (Below.refl w.heap.size w)
 have BKg := Aside0.mk hD
 have HG := Aside0.mk hG
 have HL := Aside0.mk hl
 clear hD hG hl
 go_enter Try.func43, Try.ntmps43
 go_wp2_with (fail)
 go_loopg [3, 4] gone.length (fun kq v3 v4 wr => ∃ k : Nat, v4 = .int .i64 (k : Int) ∧ Aside0 (k ≤ gone.length ∧ gone.length - k ≤ kq) ∧ Aside0 (Kd.R (Kd.int .i64) 3 wr w.heap.size (fun _ => True) v3 (wipedOf k gone)) ∧ Aside0 (Below w.heap.size w wr))
 case atStart => exact ⟨0, rfl, Aside0.mk ⟨by omega, by omega⟩, Aside0.mk (Kd.R_nil _ _ _ _ _), HB⟩
 case round =>
  clear HB
  obtain ⟨k, rfl, AX, HO, HB⟩ := hrel
  have hbk := blk_below BKg.out HB.out
  have hc7 : wr.cell? ⟨g, 7, none⟩ = some (.slice A7 gone.length c7) := (blk_cell hbk 7).trans rfl
  have hf7 := blk_frozen hbk 7
  clear hbk
  by_cases hlt : k < gone.length
  ·
   obtain ⟨ad, eA, hx0⟩ := Kd.at_bool HG.out (k : Int) (by omega) (by omega)
   subst eA
   rw [rdOf, Int.toNat_natCast] at hx0
   have b1 : decide ((k : Int) < (gone.length : Int)) = true := decide_eq_true (by omega)
   have b2 : decide (k < gone.length) = true := decide_eq_true hlt
   have b3 : (k < gone.length) = True := eq_true hlt
   have hx := pw_cell_below HB.out hx0
   have HK := Aside0.mk hlt
   clear hlt hx0
   have AL := Aside0.mk (wipedOf_len k gone)
   by_cases hg : gone.getD k false = true
   ·
    rw [hg] at hx
    have AJ := Aside0.mk (wipedOf_yes hg)
    clear hg
    go_wp2_with ((with_reducible refine gate_builtin (b := .append) (xs := #[.tmp 21, .tmp 23]) rfl ?_); at_builtin; refine Kd.R_append (Kd.int .i64) (w0 := w) w.heap.size rfl (.tmp 21) (.tmp 23) 54 3 (.int .i64 0) 8 rfl Try.underlying54 infoI64 rfl (by decide) (by omega) _ (wipedOf k gone) (k : Int) [.int .i64 (k : Int)] (fun _ => True) (fun _ => False) rfl rfl rfl (fun _ hk => hk.elim) (fun _ _ => trivial) HO.out HB.out HB.out.size (by have := AL.out; have := HK.out; have := HL.out; omega) ?_; intro v9 w9 ho hb hg hat; rw [← AJ.out] at ho; clear HB HO hc7 hf7 hx; have HB := Aside0.mk hb; have HO := Aside0.mk ho; clear hb ho hg hat)
    go_roundg (gk - 1)
    case measure =>
     have := AX.out
     have := HK.out
     omega
    case rel =>
     have h1 := AX.out
     have h2 := HK.out
     have h3 := HL.out
     exact ⟨k + 1, by rw [show wrap64 ((k : Int) + 1) = ((k + 1 : Nat) : Int) by unfold wrap64; omega], Aside0.mk ⟨by omega, by omega⟩, HO, HB⟩
   ·
    have hg : gone.getD k false = false := by simpa using hg
    rw [hg] at hx
    have AJ := Aside0.mk (wipedOf_no hg)
    clear hg
    go_wp2
    go_roundg (gk - 1)
    case measure =>
     have := AX.out
     have := HK.out
     omega
    case rel =>
     have h1 := AX.out
     have h2 := HK.out
     have h3 := HL.out
     exact ⟨k + 1, by rw [show wrap64 ((k : Int) + 1) = ((k + 1 : Nat) : Int) by unfold wrap64; omega], Aside0.mk ⟨by omega, by omega⟩, Aside0.mk (by rw [AJ.out]; exact HO.out), HB⟩
  ·
   have b1 : decide ((k : Int) < (gone.length : Int)) = false := decide_eq_false (by omega)
   have b2 : decide (k < gone.length) = false := decide_eq_false hlt
   have e : k = gone.length := by
    have := AX.out
    omega
   clear hlt
   go_wp2
   go_ret
   refine ⟨_, rfl, ?_, HB.out⟩
   have := HO.out
   rwa [e] at this
end Go.Proofs.Ytemmhgfjfbdggaa.P
namespace Go.Proofs.Ytemmhgfjfbdggaa.P
open Go.RowKit Go.Proofs.YtemmhgfjfbdggaaW.PrintWords Go.Proofs.YtemmhgfjfbdggaaW.PrintLast Go.Proofs.YtemmhgfjfbdggaaW.PrintMore
attribute [local go_sem] max2_int min2_int max_two min_two max_three min_three max_four min_four
set_option linter.unusedVariables false
set_option linter.unusedSimpArgs false
set_option maxHeartbeats 8000000 in
set_option maxRecDepth 100000 in
theorem RSetCut (r : Nat) (As Ag : Option Addr) (n cs m cg : Nat) (a b c d : Int) (slots : List (List Int)) (gone : List Bool) (off : Bool) (cut wr : Int) (base : Nat) (ok : Nat → Prop) (x : Int) (w : World) (H : RefO w base ok r As n cs Ag m cg a b c d slots gone off cut wr) (hx : 0 ≤ x) : Calls Try.prog 37 #[.pointer (some ⟨r, 0, none⟩), .int .i64 x] w fun e w' => e = .returned (.int .i64 0) ∧ RefO w' base (Gr ok w w') r As n cs Ag m cg a b c d slots gone off x wr ∧ Wrote base ok w w' := by
 have H := Aside0.mk H
 have d1 : decide (x < 0) = false := decide_eq_false (by omega)
 clear hx
 have hcr_0 : w.cell? ⟨r, 0, none⟩ = some (.int .i64 a) := (blk_cell H.out.1 0).trans rfl
 have hfr_0 := blk_frozen H.out.1 0
 have hcr_1 : w.cell? ⟨r, 1, none⟩ = some (.int .i64 b) := (blk_cell H.out.1 1).trans rfl
 have hfr_1 := blk_frozen H.out.1 1
 have hcr_2 : w.cell? ⟨r, 2, none⟩ = some (.int .i64 c) := (blk_cell H.out.1 2).trans rfl
 have hfr_2 := blk_frozen H.out.1 2
 have hcr_3 : w.cell? ⟨r, 3, none⟩ = some (.int .i64 d) := (blk_cell H.out.1 3).trans rfl
 have hfr_3 := blk_frozen H.out.1 3
 have hcr_4 : w.cell? ⟨r, 4, none⟩ = some (.slice As n cs) := (blk_cell H.out.1 4).trans rfl
 have hfr_4 := blk_frozen H.out.1 4
 have hcr_5 : w.cell? ⟨r, 5, none⟩ = some (.bool off) := (blk_cell H.out.1 5).trans rfl
 have hfr_5 := blk_frozen H.out.1 5
 have hcr_6 : w.cell? ⟨r, 6, none⟩ = some (.int .i64 cut) := (blk_cell H.out.1 6).trans rfl
 have hfr_6 := blk_frozen H.out.1 6
 have hcr_7 : w.cell? ⟨r, 7, none⟩ = some (.slice Ag m cg) := (blk_cell H.out.1 7).trans rfl
 have hfr_7 := blk_frozen H.out.1 7
 have hcr_8 : w.cell? ⟨r, 8, none⟩ = some (.int .i64 wr) := (blk_cell H.out.1 8).trans rfl
 have hfr_8 := blk_frozen H.out.1 8
 go_enter Try.func37, Try.ntmps37
 go_wp2
 first | go_ret | go_ret2 | go_end0 | ((try simp only [Exit.inBlock, Exit.then]); refine bodyPost_ret (results_none rfl _ _ _) rfl ?_)
 have K0 := H.out
 have Q0 : Wrote base ok w w := Wrote.start H.out.low
 have K1 := K0.setD (off' := off) (cut' := x) (wr' := wr) 6 (.int .i64 x) rfl
 have Q1 := Q0.cell (j := 6) H.out.ok_ (H.out.bd r H.out.ok_).1 (.int .i64 x)
 exact ⟨rfl, K1.gr H.out.low (fun k hk => .inl hk) H.out.base_, Q1⟩
set_option maxHeartbeats 8000000 in
set_option maxRecDepth 100000 in
theorem ROn (r : Nat) (As Ag : Option Addr) (n cs m cg : Nat) (a b c d : Int) (slots : List (List Int)) (gone : List Bool) (off : Bool) (cut wr : Int) (base : Nat) (ok : Nat → Prop)  (w : World) (H : RefO w base ok r As n cs Ag m cg a b c d slots gone off cut wr)  : Calls Try.prog 38 #[.pointer (some ⟨r, 0, none⟩)] w fun e w' => e = .returned (.tuple #[]) ∧ RefO w' base (Gr ok w w') r As n cs Ag m cg a b c d slots gone false (-1) wr ∧ Wrote base ok w w' := by
 have H := Aside0.mk H
 have hcr_0 : w.cell? ⟨r, 0, none⟩ = some (.int .i64 a) := (blk_cell H.out.1 0).trans rfl
 have hfr_0 := blk_frozen H.out.1 0
 have hcr_1 : w.cell? ⟨r, 1, none⟩ = some (.int .i64 b) := (blk_cell H.out.1 1).trans rfl
 have hfr_1 := blk_frozen H.out.1 1
 have hcr_2 : w.cell? ⟨r, 2, none⟩ = some (.int .i64 c) := (blk_cell H.out.1 2).trans rfl
 have hfr_2 := blk_frozen H.out.1 2
 have hcr_3 : w.cell? ⟨r, 3, none⟩ = some (.int .i64 d) := (blk_cell H.out.1 3).trans rfl
 have hfr_3 := blk_frozen H.out.1 3
 have hcr_4 : w.cell? ⟨r, 4, none⟩ = some (.slice As n cs) := (blk_cell H.out.1 4).trans rfl
 have hfr_4 := blk_frozen H.out.1 4
 have hcr_5 : w.cell? ⟨r, 5, none⟩ = some (.bool off) := (blk_cell H.out.1 5).trans rfl
 have hfr_5 := blk_frozen H.out.1 5
 have hcr_6 : w.cell? ⟨r, 6, none⟩ = some (.int .i64 cut) := (blk_cell H.out.1 6).trans rfl
 have hfr_6 := blk_frozen H.out.1 6
 have hcr_7 : w.cell? ⟨r, 7, none⟩ = some (.slice Ag m cg) := (blk_cell H.out.1 7).trans rfl
 have hfr_7 := blk_frozen H.out.1 7
 have hcr_8 : w.cell? ⟨r, 8, none⟩ = some (.int .i64 wr) := (blk_cell H.out.1 8).trans rfl
 have hfr_8 := blk_frozen H.out.1 8
 go_enter Try.func38, Try.ntmps38
 go_wp2
 first | go_ret | go_ret2 | go_end0 | ((try simp only [Exit.inBlock, Exit.then]); refine bodyPost_ret (results_none rfl _ _ _) rfl ?_)
 have K0 := H.out
 have Q0 : Wrote base ok w w := Wrote.start H.out.low
 have K1 := K0.setD (off' := false) (cut' := cut) (wr' := wr) 5 (.bool false) rfl
 have Q1 := Q0.cell (j := 5) H.out.ok_ (H.out.bd r H.out.ok_).1 (.bool false)
 have K2 := K1.setD (off' := false) (cut' := (-1)) (wr' := wr) 6 (.int .i64 (-1)) rfl
 have Q2 := Q1.cell (j := 6) H.out.ok_ (H.out.bd r H.out.ok_).1 (.int .i64 (-1))
 exact ⟨rfl, K2.gr H.out.low (fun k hk => .inl hk) H.out.base_, Q2⟩
set_option maxHeartbeats 8000000 in
set_option maxRecDepth 100000 in
theorem RSetCut_less (r : Nat) (x : Int) (hx : x < 0) (w : World) : Calls Try.prog 37 #[.pointer (some ⟨r, 0, none⟩), .int .i64 x] w fun e w' => e = .returned (.int .i64 2) ∧ Below w.heap.size w w' := by
 have d1 : decide (x < 0) = true := decide_eq_true hx
 clear hx
 go_enter Try.func37, Try.ntmps37
 go_wp2
 go_ret
 exact ⟨rfl, Below.refl _ _⟩
set_option maxHeartbeats 8000000 in
set_option maxRecDepth 100000 in
theorem RWhole (r : Nat) (As Ag : Option Addr) (n cs m cg : Nat) (a b c d : Int) (slots : List (List Int)) (gone : List Bool) (off : Bool) (cut wr : Int) (base : Nat) (ok : Nat → Prop) (w : World) (H : RefO w base ok r As n cs Ag m cg a b c d slots gone off cut wr) (hm : m ≤ 16) : Calls Try.prog 39 #[.pointer (some ⟨r, 0, none⟩)] w fun e w' => e = .returned (.tuple #[]) ∧ ∃ (Ag' : Option Addr) (cg' : Nat), RefO w' base (Gr ok w w') r As n cs Ag' m cg' a b c d slots (List.replicate m false) off cut wr ∧ Wrote base ok w w' := by
 have HM := Aside0.mk hm
 have H := Aside0.mk H
 have HL := Aside0.mk H.out.lens
 have HB := Aside0.mk (Below.refl w.heap.size w)
 clear hm
 have hcr_0 : w.cell? ⟨r, 0, none⟩ = some (.int .i64 a) := (blk_cell H.out.1 0).trans rfl
 have hfr_0 := blk_frozen H.out.1 0
 have hcr_1 : w.cell? ⟨r, 1, none⟩ = some (.int .i64 b) := (blk_cell H.out.1 1).trans rfl
 have hfr_1 := blk_frozen H.out.1 1
 have hcr_2 : w.cell? ⟨r, 2, none⟩ = some (.int .i64 c) := (blk_cell H.out.1 2).trans rfl
 have hfr_2 := blk_frozen H.out.1 2
 have hcr_3 : w.cell? ⟨r, 3, none⟩ = some (.int .i64 d) := (blk_cell H.out.1 3).trans rfl
 have hfr_3 := blk_frozen H.out.1 3
 have hcr_4 : w.cell? ⟨r, 4, none⟩ = some (.slice As n cs) := (blk_cell H.out.1 4).trans rfl
 have hfr_4 := blk_frozen H.out.1 4
 have hcr_5 : w.cell? ⟨r, 5, none⟩ = some (.bool off) := (blk_cell H.out.1 5).trans rfl
 have hfr_5 := blk_frozen H.out.1 5
 have hcr_6 : w.cell? ⟨r, 6, none⟩ = some (.int .i64 cut) := (blk_cell H.out.1 6).trans rfl
 have hfr_6 := blk_frozen H.out.1 6
 have hcr_7 : w.cell? ⟨r, 7, none⟩ = some (.slice Ag m cg) := (blk_cell H.out.1 7).trans rfl
 have hfr_7 := blk_frozen H.out.1 7
 have hcr_8 : w.cell? ⟨r, 8, none⟩ = some (.int .i64 wr) := (blk_cell H.out.1 8).trans rfl
 have hfr_8 := blk_frozen H.out.1 8
 go_enter Try.func39, Try.ntmps39
 go_wp2_with ((with_reducible refine gate_dst (N := 8) rfl ?_); refine Kd.R_make Kd.bool w.heap.size 4 (by rfl) (N := 8) rfl 76 _ _ rfl _ rfl rfl Try.underlying76 (.bool false) 1 info4 rfl (by decide) (by omega) false (ok := fun _ => True) (okp := fun _ => True) rfl (fun _ hk => hk) trivial (by omega) (by have := HM.out; omega) HB.out HB.out.size ?_; intro vm w1 ho hb hg hat; rw [Int.toNat_natCast] at ho; obtain ⟨A, c', e_⟩ := Kd.R_slice ho; rw [List.length_replicate] at e_; subst e_; have HO := Aside0.mk (Kd.R_bound ho); have K := Aside0.mk (H.out.below hb); have HBk := Aside0.mk hb; clear ho hb hg hat; have hcs_7 : w1.cell? ⟨r, 7, none⟩ = some (.slice Ag m cg) := (blk_cell K.out.1 7).trans rfl; have hfs_7 := blk_frozen K.out.1 7)
 first | go_ret | go_ret2 | go_end0 | ((try simp only [Exit.inBlock, Exit.then]); refine bodyPost_ret (results_none rfl _ _ _) rfl ?_)
 have HNe := Aside0.mk (show ∀ k, (w.heap.size ≤ k) → k ≠ r from fun k hk e => by have := (H.out.bd r H.out.ok_).2; omega)
 have HOf : Kd.R Kd.bool 4 (w1.setCell ⟨r, 7, none⟩ (.slice A m c')) w.heap.size (fun k => w.heap.size ≤ k ∧ k < w1.heap.size) (.slice A m c') (List.replicate m false) := Kd.R_far (Kd.R_mono HO.out (fun k hk => ⟨hk.2.1, hk.2.2.1⟩)) (p := ⟨r, 7, none⟩) (fun k hk => HNe.out k hk.1) _
 have hsz : (w1.setCell ⟨r, 7, none⟩ (.slice A m c')).heap.size = w1.heap.size := by simp [World.setCell]
 have hbd := H.out.bd
 have hlow := H.out.low
 have hge := HBk.out.size
 refine ⟨rfl, A, c', ⟨blk_put K.out.1 7 _ rfl, ?_, ?_, ⟨by rw [hsz]; have := (hbd r H.out.ok_).2; omega, .inl H.out.ok_⟩, ?_⟩, ((Wrote.start (ok := ok) (w := w) hlow).below HBk.out).cell (j := 7) H.out.ok_ (hbd r H.out.ok_).1 _⟩
 ·
  refine Kd.N_mono (Kd.N_far (p := ⟨r, 7, none⟩) (Kd.N_below (Kd.N_bound H.out.2.1) HBk.out) (fun k hk => hk.1.2.1) _) (fun k hk => ⟨⟨by rw [hsz]; omega, .inl hk.1.1⟩, hk.1.2.1, fun e => ?_⟩)
  have h2 := (HOf.1 k e.symm).1
  omega
 ·
  exact Kd.R_lower (Kd.R_mono HOf (fun k hk => ⟨by rw [hsz]; exact hk.2, .inr hk.1⟩)) hlow
 ·
  rintro k ⟨h1, h2 | h2⟩
  ·
   exact ⟨(hbd k h2).1, h1⟩
  ·
   exact ⟨by omega, h1⟩
end Go.Proofs.Ytemmhgfjfbdggaa.P
namespace Go.Proofs.Ytemmhgfjfbdggaa.P
open Go.RowKit Go.Proofs.YtemmhgfjfbdggaaW.PrintWords Go.Proofs.YtemmhgfjfbdggaaW.PrintLast Go.Proofs.YtemmhgfjfbdggaaW.PrintMore
attribute [local go_sem] max2_int min2_int max_two min_two max_three min_three max_four min_four
set_option linter.unusedVariables false
set_option linter.unusedSimpArgs false
set_option maxHeartbeats 8000000 in
set_option maxRecDepth 100000 in
theorem RRead_off (r : Nat) (As Ag : Option Addr) (n cs m cg : Nat) (a b c d : Int) (slots : List (List Int)) (gone : List Bool) (off : Bool) (cut wr : Int) (base : Nat) (ok : Nat → Prop) (x y z : Int) (w : World) (H : RefO w base ok r As n cs Ag m cg a b c d slots gone off cut wr) (ho : off = true) : Calls Try.prog 35 #[.pointer (some ⟨r, 0, none⟩), .int .i64 x, .int .i64 y, .int .i64 z] w fun e w' => e = .returned (.tuple #[.slice none 0 0, .int .i64 9]) ∧ Below w.heap.size w w' := by
 subst ho
 have BKr := Aside0.mk H.1
 clear H
 have hcr_5 : w.cell? ⟨r, 5, none⟩ = some (.bool true) := (blk_cell BKr.out 5).trans rfl
 have hfr_5 := blk_frozen BKr.out 5
 go_enter Try.func35, Try.ntmps35
 go_wp2
 first | go_ret | go_ret2
 exact ⟨rfl, Below.refl _ _⟩
set_option maxHeartbeats 8000000 in
set_option maxRecDepth 100000 in
theorem RRead_bad (r : Nat) (As Ag : Option Addr) (n cs m cg : Nat) (a b c d : Int) (slots : List (List Int)) (gone : List Bool) (off : Bool) (cut wr : Int) (base : Nat) (ok : Nat → Prop) (x y z : Int) (w : World) (H : RefO w base ok r As n cs Ag m cg a b c d slots gone off cut wr) (ho : off = false) (hm : (m : Int) = a + b) (hm2 : m ≤ 16) (hd : 0 ≤ d ∧ d ≤ 4096) (hat : atOf m d x y z < 0) : Calls Try.prog 35 #[.pointer (some ⟨r, 0, none⟩), .int .i64 x, .int .i64 y, .int .i64 z] w fun e w' => e = .returned (.tuple #[.slice none 0 0, .int .i64 80]) ∧ Below w.heap.size w w' := by
 subst ho
 have hu23 := Try.underlying23
 have hte := there_ev (c := c) hm hm2 hd x y z
 have b1 : decide (atOf m d x y z < 0) = true := decide_eq_true hat
 have HB := Aside0.mk (Below.refl w.heap.size w)
 have BKr := Aside0.mk H.1
 have HTE := Aside0.mk hte
 clear H hm hm2 hd hte hat
 have hcr_0 : w.cell? ⟨r, 0, none⟩ = some (.int .i64 a) := (blk_cell BKr.out 0).trans rfl
 have hfr_0 := blk_frozen BKr.out 0
 have hcr_1 : w.cell? ⟨r, 1, none⟩ = some (.int .i64 b) := (blk_cell BKr.out 1).trans rfl
 have hfr_1 := blk_frozen BKr.out 1
 have hcr_2 : w.cell? ⟨r, 2, none⟩ = some (.int .i64 c) := (blk_cell BKr.out 2).trans rfl
 have hfr_2 := blk_frozen BKr.out 2
 have hcr_3 : w.cell? ⟨r, 3, none⟩ = some (.int .i64 d) := (blk_cell BKr.out 3).trans rfl
 have hfr_3 := blk_frozen BKr.out 3
 have hcr_4 : w.cell? ⟨r, 4, none⟩ = some (.slice As n cs) := (blk_cell BKr.out 4).trans rfl
 have hfr_4 := blk_frozen BKr.out 4
 have hcr_5 : w.cell? ⟨r, 5, none⟩ = some (.bool false) := (blk_cell BKr.out 5).trans rfl
 have hfr_5 := blk_frozen BKr.out 5
 have hcr_6 : w.cell? ⟨r, 6, none⟩ = some (.int .i64 cut) := (blk_cell BKr.out 6).trans rfl
 have hfr_6 := blk_frozen BKr.out 6
 have hcr_7 : w.cell? ⟨r, 7, none⟩ = some (.slice Ag m cg) := (blk_cell BKr.out 7).trans rfl
 have hfr_7 := blk_frozen BKr.out 7
 have hcr_8 : w.cell? ⟨r, 8, none⟩ = some (.int .i64 wr) := (blk_cell BKr.out 8).trans rfl
 have hfr_8 := blk_frozen BKr.out 8
 go_enter Try.func35, Try.ntmps35
 have tok1 : True := trivial
 go_wp2_with (first | (have _ := tok1; go_at_call 53; (with_reducible refine (twoslotref08_There.calls a b c d x y z (atOf m d x y z) _ HTE.out).mono ?_); rintro e w1 ⟨rfl, hb⟩; (try clear hcr_0 hfr_0 hcr_1 hfr_1 hcr_2 hfr_2 hcr_3 hfr_3 hcr_4 hfr_4 hcr_5 hfr_5 hcr_6 hfr_6 hcr_7 hfr_7 hcr_8 hfr_8); have hs : Below w.heap.size w w1 := below_step (by repeat (first | exact Below.refl _ _ | apply below_alloc | apply pw_below_drewN | apply below_drew1)) hb; have hl : w.heap.size ≤ _ := below_size (w := w) (by repeat (first | exact Below.refl _ _ | apply below_alloc | apply pw_below_drewN | apply below_drew1)); have SZ1 := Aside0.mk (show w.heap.size ≤ w1.heap.size from hs.size); replace BKr := bb BKr hs; replace HB := hbs HB hs; clear hb hs; (try clear hl); have hcr_0 : w1.cell? ⟨r, 0, none⟩ = some (.int .i64 a) := (blk_cell BKr.out 0).trans rfl; have hfr_0 := blk_frozen BKr.out 0; have hcr_1 : w1.cell? ⟨r, 1, none⟩ = some (.int .i64 b) := (blk_cell BKr.out 1).trans rfl; have hfr_1 := blk_frozen BKr.out 1; have hcr_2 : w1.cell? ⟨r, 2, none⟩ = some (.int .i64 c) := (blk_cell BKr.out 2).trans rfl; have hfr_2 := blk_frozen BKr.out 2; have hcr_3 : w1.cell? ⟨r, 3, none⟩ = some (.int .i64 d) := (blk_cell BKr.out 3).trans rfl; have hfr_3 := blk_frozen BKr.out 3; have hcr_4 : w1.cell? ⟨r, 4, none⟩ = some (.slice As n cs) := (blk_cell BKr.out 4).trans rfl; have hfr_4 := blk_frozen BKr.out 4; have hcr_5 : w1.cell? ⟨r, 5, none⟩ = some (.bool false) := (blk_cell BKr.out 5).trans rfl; have hfr_5 := blk_frozen BKr.out 5; have hcr_6 : w1.cell? ⟨r, 6, none⟩ = some (.int .i64 cut) := (blk_cell BKr.out 6).trans rfl; have hfr_6 := blk_frozen BKr.out 6; have hcr_7 : w1.cell? ⟨r, 7, none⟩ = some (.slice Ag m cg) := (blk_cell BKr.out 7).trans rfl; have hfr_7 := blk_frozen BKr.out 7; have hcr_8 : w1.cell? ⟨r, 8, none⟩ = some (.int .i64 wr) := (blk_cell BKr.out 8).trans rfl; have hfr_8 := blk_frozen BKr.out 8; clear tok1))
 first | go_ret | go_ret2
 exact ⟨rfl, HB.out⟩
set_option maxHeartbeats 8000000 in
set_option maxRecDepth 100000 in
theorem RRead (r : Nat) (As Ag : Option Addr) (n cs m cg : Nat) (a b c d : Int) (slots : List (List Int)) (gone : List Bool) (off : Bool) (cut wr : Int) (base : Nat) (ok : Nat → Prop) (x y z : Int) (w : World) (H : RefO w base ok r As n cs Ag m cg a b c d slots gone off cut wr) (ho : off = false) (hm : (m : Int) = a + b) (hm2 : m ≤ 16) (hd : 0 ≤ d ∧ d ≤ 4096) (i : Nat) (hat : atOf m d x y z = (i : Int)) (hi : i < slots.length) (hB : IsB (slots.getD i [])) (hL : (slots.getD i []).length ≤ 1048576) : Calls Try.prog 35 #[.pointer (some ⟨r, 0, none⟩), .int .i64 x, .int .i64 y, .int .i64 z] w fun e w' => ∃ v : Value, e = .returned (.tuple #[v, .int .i64 0]) ∧ Kd.V (Kd.int .u8) 5 w' w.heap.size (fun k_ => w.heap.size ≤ k_) v (slots.getD i []) ∧ Below w.heap.size w w' := by
 subst ho
 have hu23 := Try.underlying23
 have hte := there_ev (c := c) hm hm2 hd x y z
 rw [hat] at hte
 have hn := H.lens
 obtain ⟨g, cap, e, _⟩ := Kd.N_form H.2.1 (by omega)
 injection e with e1 e2 e3
 subst e1
 have b1 : decide ((i : Int) < 0) = false := decide_eq_false (by omega)
 obtain ⟨A, cc, hsc, hsf, hle, hC⟩ := H.slotCell hi
 generalize slots.getD i [] = p at *
 have HB := Aside0.mk (Below.refl w.heap.size w)
 have BKr := Aside0.mk H.1
 have HTE := Aside0.mk hte
 have HSC := Aside0.mk hsc
 have HLE := Aside0.mk hle
 have HC := Aside0.mk hC
 have HBY := Aside0.mk (bytes8_ev hB hL)
 have HN := Aside0.mk hn
 have HI := Aside0.mk hi
 have f1 : (i < n) = True := eq_true (by omega)
 have f2 : decide ((i : Int) < (n : Int)) = true := decide_eq_true (by omega)
 clear H hm hm2 hd hte hat hi hB hL hn e2 e3 hsc hle hC hsf
 have hcr_0 : w.cell? ⟨r, 0, none⟩ = some (.int .i64 a) := (blk_cell BKr.out 0).trans rfl
 have hfr_0 := blk_frozen BKr.out 0
 have hcr_1 : w.cell? ⟨r, 1, none⟩ = some (.int .i64 b) := (blk_cell BKr.out 1).trans rfl
 have hfr_1 := blk_frozen BKr.out 1
 have hcr_2 : w.cell? ⟨r, 2, none⟩ = some (.int .i64 c) := (blk_cell BKr.out 2).trans rfl
 have hfr_2 := blk_frozen BKr.out 2
 have hcr_3 : w.cell? ⟨r, 3, none⟩ = some (.int .i64 d) := (blk_cell BKr.out 3).trans rfl
 have hfr_3 := blk_frozen BKr.out 3
 have hcr_4 : w.cell? ⟨r, 4, none⟩ = some (.slice (some ⟨g, 0, none⟩) n cs) := (blk_cell BKr.out 4).trans rfl
 have hfr_4 := blk_frozen BKr.out 4
 have hcr_5 : w.cell? ⟨r, 5, none⟩ = some (.bool false) := (blk_cell BKr.out 5).trans rfl
 have hfr_5 := blk_frozen BKr.out 5
 have hcr_6 : w.cell? ⟨r, 6, none⟩ = some (.int .i64 cut) := (blk_cell BKr.out 6).trans rfl
 have hfr_6 := blk_frozen BKr.out 6
 have hcr_7 : w.cell? ⟨r, 7, none⟩ = some (.slice Ag m cg) := (blk_cell BKr.out 7).trans rfl
 have hfr_7 := blk_frozen BKr.out 7
 have hcr_8 : w.cell? ⟨r, 8, none⟩ = some (.int .i64 wr) := (blk_cell BKr.out 8).trans rfl
 have hfr_8 := blk_frozen BKr.out 8
 have xHSC := HSC.out
 go_enter Try.func35, Try.ntmps35
 have tok1 : True := trivial
 go_wp2_with (first | (have _ := tok1; go_at_call 53; (with_reducible refine (twoslotref08_There.calls a b c d x y z (i : Int) _ HTE.out).mono ?_); rintro e w1 ⟨rfl, hb⟩; (try clear hcr_0 hfr_0 hcr_1 hfr_1 hcr_2 hfr_2 hcr_3 hfr_3 hcr_4 hfr_4 hcr_5 hfr_5 hcr_6 hfr_6 hcr_7 hfr_7 hcr_8 hfr_8); (try clear xHSC); have hs : Below w.heap.size w w1 := below_step (by repeat (first | exact Below.refl _ _ | apply below_alloc | apply pw_below_drewN | apply below_drew1)) hb; have hl : w.heap.size ≤ _ := below_size (w := w) (by repeat (first | exact Below.refl _ _ | apply below_alloc | apply pw_below_drewN | apply below_drew1)); have SZ1 := Aside0.mk (show w.heap.size ≤ w1.heap.size from hs.size); replace BKr := bb BKr hs; replace HSC := Aside0.mk (pw_cell_below hs HSC.out); replace HB := hbs HB hs; clear hb hs; (try clear hl); have hcr_0 : w1.cell? ⟨r, 0, none⟩ = some (.int .i64 a) := (blk_cell BKr.out 0).trans rfl; have hfr_0 := blk_frozen BKr.out 0; have hcr_1 : w1.cell? ⟨r, 1, none⟩ = some (.int .i64 b) := (blk_cell BKr.out 1).trans rfl; have hfr_1 := blk_frozen BKr.out 1; have hcr_2 : w1.cell? ⟨r, 2, none⟩ = some (.int .i64 c) := (blk_cell BKr.out 2).trans rfl; have hfr_2 := blk_frozen BKr.out 2; have hcr_3 : w1.cell? ⟨r, 3, none⟩ = some (.int .i64 d) := (blk_cell BKr.out 3).trans rfl; have hfr_3 := blk_frozen BKr.out 3; have hcr_4 : w1.cell? ⟨r, 4, none⟩ = some (.slice (some ⟨g, 0, none⟩) n cs) := (blk_cell BKr.out 4).trans rfl; have hfr_4 := blk_frozen BKr.out 4; have hcr_5 : w1.cell? ⟨r, 5, none⟩ = some (.bool false) := (blk_cell BKr.out 5).trans rfl; have hfr_5 := blk_frozen BKr.out 5; have hcr_6 : w1.cell? ⟨r, 6, none⟩ = some (.int .i64 cut) := (blk_cell BKr.out 6).trans rfl; have hfr_6 := blk_frozen BKr.out 6; have hcr_7 : w1.cell? ⟨r, 7, none⟩ = some (.slice Ag m cg) := (blk_cell BKr.out 7).trans rfl; have hfr_7 := blk_frozen BKr.out 7; have hcr_8 : w1.cell? ⟨r, 8, none⟩ = some (.int .i64 wr) := (blk_cell BKr.out 8).trans rfl; have hfr_8 := blk_frozen BKr.out 8; have xHSC := HSC.out; clear tok1; have tok2 : True := trivial) | (have _ := tok2; go_at_call 33; have HB0 := Aside0.mk (show Below w.heap.size w _ from (by repeat (first | exact HB.out | apply below_alloc | apply pw_below_drewN | apply below_drew1))); (with_reducible refine (twoslotref08_Bytes.calls A cc p p _ ?s1 HLE.out HBY.out).mono ?_); (case s1 => exact Kd.C_below HC.out (by repeat (first | exact HB.out | apply below_alloc | apply pw_below_drewN | apply below_drew1))); rintro e w2 ⟨v, rfl, ho, hb⟩; (try clear hcr_0 hfr_0 hcr_1 hfr_1 hcr_2 hfr_2 hcr_3 hfr_3 hcr_4 hfr_4 hcr_5 hfr_5 hcr_6 hfr_6 hcr_7 hfr_7 hcr_8 hfr_8); (try clear xHSC); have hs : Below w1.heap.size w1 w2 := below_step (by repeat (first | exact Below.refl _ _ | apply below_alloc | apply pw_below_drewN | apply below_drew1)) hb; have hl : w1.heap.size ≤ _ := below_size (w := w1) (by repeat (first | exact Below.refl _ _ | apply below_alloc | apply pw_below_drewN | apply below_drew1)); have SZ2 := Aside0.mk (show w1.heap.size ≤ w2.heap.size from hs.size); replace BKr := bb BKr hs; replace HSC := Aside0.mk (pw_cell_below hs HSC.out); replace HB := hbs HB hs; have HV := Aside0.mk (Kd.V_mono (Kd.V_lower ho (below_size (w := w) HB0.out)) (fun k_ hk_ => Nat.le_trans (below_size (w := w) HB0.out) hk_) : Kd.V (Kd.int .u8) 5 _ w.heap.size (fun k_ => w.heap.size ≤ k_) v p); clear ho; obtain ⟨v_A, v_c, e_⟩ := Kd.V_slice HV.out; subst e_; clear hb hs; (try clear hl); have hcr_0 : w2.cell? ⟨r, 0, none⟩ = some (.int .i64 a) := (blk_cell BKr.out 0).trans rfl; have hfr_0 := blk_frozen BKr.out 0; have hcr_1 : w2.cell? ⟨r, 1, none⟩ = some (.int .i64 b) := (blk_cell BKr.out 1).trans rfl; have hfr_1 := blk_frozen BKr.out 1; have hcr_2 : w2.cell? ⟨r, 2, none⟩ = some (.int .i64 c) := (blk_cell BKr.out 2).trans rfl; have hfr_2 := blk_frozen BKr.out 2; have hcr_3 : w2.cell? ⟨r, 3, none⟩ = some (.int .i64 d) := (blk_cell BKr.out 3).trans rfl; have hfr_3 := blk_frozen BKr.out 3; have hcr_4 : w2.cell? ⟨r, 4, none⟩ = some (.slice (some ⟨g, 0, none⟩) n cs) := (blk_cell BKr.out 4).trans rfl; have hfr_4 := blk_frozen BKr.out 4; have hcr_5 : w2.cell? ⟨r, 5, none⟩ = some (.bool false) := (blk_cell BKr.out 5).trans rfl; have hfr_5 := blk_frozen BKr.out 5; have hcr_6 : w2.cell? ⟨r, 6, none⟩ = some (.int .i64 cut) := (blk_cell BKr.out 6).trans rfl; have hfr_6 := blk_frozen BKr.out 6; have hcr_7 : w2.cell? ⟨r, 7, none⟩ = some (.slice Ag m cg) := (blk_cell BKr.out 7).trans rfl; have hfr_7 := blk_frozen BKr.out 7; have hcr_8 : w2.cell? ⟨r, 8, none⟩ = some (.int .i64 wr) := (blk_cell BKr.out 8).trans rfl; have hfr_8 := blk_frozen BKr.out 8; have xHSC := HSC.out; clear tok2))
 first | go_ret | go_ret2
 exact ⟨_, rfl, HV.out, HB.out⟩
end Go.Proofs.Ytemmhgfjfbdggaa.P
