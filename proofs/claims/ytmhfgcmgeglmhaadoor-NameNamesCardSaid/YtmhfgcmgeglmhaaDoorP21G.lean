import Derived.Test.YtmhfgcmgeglmhaaDoorPx0
import Derived.Test.YtmhfgcmgeglmhaaDoorPx1
import Derived.Test.YtmhfgcmgeglmhaaDoorP0Steps
import Derived.Test.YtmhfgcmgeglmhaaDoorP0Shelf
import Derived.Test.YtmhfgcmgeglmhaaDoorWKept
import Derived.RangeFuncNested
import Derived.RangeFuncBound
import Derived.RangeFuncCalls
import Derived.RangeFuncLeaves
import Derived.RangeFuncBox
import Derived.RangeFuncFrom
import Derived.Maps.AppendAt
import Derived.Shelf.Abstract
import Derived.Shelf.RegionOpen
import Derived.WalkKit
import Derived.OwnWalkIn
import Derived.TacticsInMore
import Derived.LoopNIn
import Derived.LoopIn
import Derived.Lib.OwnBridge
import Derived.Sort.Grow
import Derived.Sort.EncStr
namespace Go.Proofs.YtmhfgcmgeglmhaaDoor.P
open Go.RowKit Go.Proofs.YtmhfgcmgeglmhaaDoorW.PrintWords Go.Proofs.YtmhfgcmgeglmhaaDoorW.PrintLast Go.Proofs.YtmhfgcmgeglmhaaDoorW.PrintMore
attribute [local go_sem] max2_int min2_int max_two min_two max_three min_three max_four min_four
set_option linter.unusedVariables false
set_option linter.unusedSimpArgs false
open Go.Shelf
section
attribute [local go_sem] Oper.semAt_some
theorem str_elem {w : World} {A : Option Addr} {l : List ByteArray} (h : Kd.C Kd.string w A l.length l) (k : Nat) (hk : k < l.length) : ∃ ad, A = some ad ∧ w.cell? (ad.add k) = some (.string l[k]) := by
  obtain ⟨ad, e, hc⟩ := Kd.at_string h (k : Int) (by omega) (by omega)
  refine ⟨ad, e, ?_⟩
  simpa [rdOf, hk] using hc
set_option maxRecDepth 100000 in
set_option maxHeartbeats 2000000 in
theorem vals1 (F : Fence) (n : Nat) (h45 : F.fn 45) (hro : F.round = none) (hn : 1 ≤ n) (l Bs cap : Nat) (A : Option Addr) (xs : List ByteArray) (w0 : World) (hC : Kd.C Kd.string w0 A xs.length xs) (hlen : xs.length ≤ 100000) (J Jx : List ByteArray → World → Prop)
    (hY : ∀ pre x W, J pre W → pre.length < xs.length → YieldAt F (n - 1) Tryd.prog l #[.string x] W fun e W' =>
      (e = .returned (.bool true) ∧ J (pre ++ [x]) W' ∧ Below w0.heap.size W W') ∨ (e = .returned (.bool false) ∧ Jx (pre ++ [x]) W'))
    (W : World) (hW : Below w0.heap.size w0 W) (hBs : W.cell? ⟨Bs, 0, none⟩ = some (.slice A xs.length cap)) (h0 : J [] W) :
    CallsIn F n Tryd.prog 45 #[.func (.yield l) #[] #[], .pointer (some ⟨Bs, 0, none⟩)] W fun e W' => (∃ v, e = .returned v) ∧
      ((∃ ys, ys = xs ∧ J ys W') ∨ (∃ pre, pre <+: xs ∧ Jx pre W')) := by
  refine callsIn_of_wp Tryd.func45 rfl h45 ?_ hro
  simp only [Tryd.ntmps45, List.size_toArray, List.length_cons, List.length_nil, Nat.reduceAdd, Nat.reduceSub, Array.replicate_succ, Array.replicate_zero, List.push_toArray, List.append_toArray, List.nil_append, List.cons_append]
  gi_wp2
  gi_loopw [7] (fun i wr => ∃ k : Nat, k ≤ xs.length ∧ i = .int .i64 k ∧ J (xs.take k) wr ∧ Below w0.heap.size W wr)
    (fun i _ => xs.length - (intOf i).toNat)
  case atStart => exact ⟨0, Nat.zero_le _, rfl, h0, Below.refl _ _⟩
  case round =>
    obtain ⟨k, hk, rfl, hJs, hnx⟩ := hrel
    by_cases hlt : k < xs.length
    · obtain ⟨ad, eA, hcx⟩ := str_elem (Kd.C_below hC (hW.trans hnx)) k hlt
      subst eA
      obtain ⟨fn, tmps, assign, body, hy, hR⟩ := hY _ xs[k] wr hJs (by rw [List.length_take]; omega)
      rw [← List.take_succ_eq_append_getElem hlt] at hR
      obtain ⟨x, hx⟩ : ∃ x, xs[k] = x := ⟨_, rfl⟩
      rw [hx] at hy hcx
      gi_wp2
      refine hR.mono ?_
      rintro e W3 (⟨rfl, hJ3, hk3⟩ | ⟨rfl, hJx3⟩)
      · gi_wp2
        go_roundw
        case rel => exact ⟨k + 1, by omega, by simp, hJ3, hnx.trans hk3⟩
        case measure => simp [intOf]; omega
      · gi_wp2
        refine bodyPost_ret (results_none rfl _ _ _) rfl ?_
        exact ⟨⟨_, rfl⟩, .inr ⟨_, List.take_prefix _ _, hJx3⟩⟩
    · obtain rfl : k = xs.length := by omega
      gi_wp2
      go_end0
      exact ⟨⟨_, rfl⟩, .inl ⟨_, List.take_length, hJs⟩⟩
set_option maxHeartbeats 1000000 in
theorem values_in (F : Fence) (n : Nat) (h36 : F.fn 36) (hro : F.round = none) (a : Option Addr) (len cap : Nat) (w : World) :
    CallsIn F n Tryd.prog 36 #[.slice a len cap] w fun e w' => e = .returned (.func (.func 45) #[] #[.pointer (some ⟨w.heap.size, 0, none⟩)]) ∧ w' = w.alloc (.cells #[.slice a len cap] 32) := by
  refine callsIn_of_wp Tryd.func36 rfl h36 ?_ hro
  simp only [Tryd.ntmps36, List.size_toArray, List.length_cons, List.length_nil, Nat.reduceAdd, Nat.reduceSub, Array.replicate_succ, Array.replicate_zero, List.push_toArray, List.append_toArray, List.nil_append, List.cons_append]
  gi_wp2
  go_ret
  exact ⟨rfl, rfl⟩
theorem values_stops (F : Fence) (n : Nat) (h45 : F.fn 45) (hro : F.round = none) (hn : 1 ≤ n) (Bs cap : Nat) (A : Option Addr) (xs : List ByteArray) (w0 w : World) (hC : Kd.C Kd.string w0 A xs.length xs) (hlen : xs.length ≤ 100000) (hw : Below w0.heap.size w0 w) (hBs : Bs < w.heap.size)
    (hc : w.cell? ⟨Bs, 0, none⟩ = some (.slice A xs.length cap)) :
    SeqStopsK F n Tryd.prog 45 #[.pointer (some ⟨Bs, 0, none⟩)] (fun x : ByteArray => #[Value.string x]) (Below w0.heap.size) (fun ys => ys = xs) (fun pre => pre <+: xs) xs.length w := fun l J Jx W hW _ _ hY h0 =>
  vals1 F n h45 hro hn l Bs cap A xs w0 hC hlen J Jx hY W (hw.trans (hW.mono hw.size)) ((hW.cell (p := ⟨Bs, 0, none⟩) hBs).trans hc) h0
theorem infoStr : (Tryd.prog.info? 9).map (fun i => (i.zero, i.size, i.bytes)) = some (some (.string ⟨#[]⟩), 1, 16) := by kernel_rfl
set_option maxRecDepth 100000 in
set_option maxHeartbeats 2000000 in
/-- slices.AppendSeq(nil, slices.Values(l)): a new slice that holds what l holds. -/
theorem appendSeq (F : Fence) (n : Nat) (h51 : F.fn 51) (h45 : F.fn 45) (hro : F.round = none) (hn : 3 ≤ n) (Bs cap : Nat) (A : Option Addr) (xs : List ByteArray) (w0 w : World) (hC : Kd.C Kd.string w0 A xs.length xs) (hlen : xs.length ≤ 100000) (hw : Below w0.heap.size w0 w) (hBs : Bs < w.heap.size)
    (hc0 : w.cell? ⟨Bs, 0, none⟩ = some (.slice A xs.length cap)) :
    CallsIn F n Tryd.prog 51 #[.slice none 0 0, .func (.func 45) #[] #[.pointer (some ⟨Bs, 0, none⟩)]] w fun e W' => ∃ v, e = .returned v ∧ W'.ownsRow w.heap.size 9 1 v xs.length (xs.map Value.string) ∧ (v = .slice none 0 0 ↔ xs = []) ∧ Below w.heap.size w W' := by
  have h1 : 1 ≤ n := by omega
  obtain ⟨i0, hi, hz0, hz1, hz2⟩ := info_parts infoStr
  refine callsIn_of_wp_marks Tryd.func51 rfl h51 ?_ hro
  simp only [Tryd.ntmps51, List.size_toArray, List.length_cons, List.length_nil, Nat.reduceAdd, Nat.reduceSub, Array.replicate_succ, Array.replicate_zero, List.push_toArray, List.append_toArray, List.nil_append, List.cons_append]
  gi_wp2
  have bO := Boxed.new w 32 (.slice none 0 0)
  have hB0 : Below w.heap.size w (w.alloc (.cells #[.slice none 0 0] 32)) := (Below.refl _ w).alloc (Nat.le_refl _) _
  have hcB : (w.alloc (.cells #[.slice none 0 0] 32)).cell? ⟨Bs, 0, none⟩ = some (.slice A xs.length cap) := (hB0.cell (p := ⟨Bs, 0, none⟩) hBs).trans hc0
  have hw1 : Below w0.heap.size w0 (w.alloc (.cells #[.slice none 0 0] 32)) := hw.trans (hB0.mono hw.size)
  have hKt : ∀ {A B C : World}, Below w0.heap.size A B → Below w0.heap.size B C → Below w0.heap.size A C := belowK_t
  refine wpIn_rangeFunc_ownF hro h1 (gf := 45) (lb := #[.pointer (some ⟨Bs, 0, none⟩)]) rfl h45 (enters_of Tryd.func45 (by kernel_rfl) rfl)
    (values_stops F (n - 1) h45 hro (by omega) Bs cap A xs w0 _ hC hlen hw1 (by simp; omega) hcB) hKt (belowK_b (by have := hw.size; simp; omega)) (Below.refl _ _) (fun _ => rfl)
    (fun pre W => (∃ v, Boxed W w.heap.size 32 v ∧ W.ownsRow w.heap.size 9 1 v pre.length (pre.map Value.string) ∧ (v = .slice none 0 0 ↔ pre = [])) ∧ Below w.heap.size w W)
    (fun _ _ _ => False)
    (OwnFrom.and (Own.from (holdsRow_own w.heap.size w.heap.size 32 9 1 (fun pre : List ByteArray => pre.length) (fun pre => pre.map Value.string) (fun pre v => v = .slice none 0 0 ↔ pre = [])) _) (ownFrom_below (Nat.le_refl _) (by simp)))
    (fun _ _ _ _ _ hs _ _ => hs)
    ⟨⟨_, bO, World.ownsRow_nil _ _ _ _, by simp⟩, hB0⟩
    (fun x => { tmps := #[.slice none 0 0, .func (.func 45) #[] #[.pointer (some ⟨Bs, 0, none⟩)], .pointer (some ⟨w.heap.size, 0, none⟩), undef, .slice none 0 0, .string x, .func (.func 45) #[] #[.pointer (some ⟨Bs, 0, none⟩)], .string x, undef, undef, undef, undef, undef], defers := [] }) ?assign ?body ?done ?stop
  case assign =>
    intro l x W K hK
    gi_wp2
    exact hK
  case body =>
    rintro l pre x W ⟨⟨v, hv, hrow, hnil⟩, hB⟩ hlt
    have hc := hv.cell
    gi_wp2_with (gi_at_builtin; refine wpListIn_append_own _ rfl _ _ 32 rfl w.heap.size 9 i0 (.string ⟨#[]⟩) 1 16 Tryd.underlying32 hi hz0 hz1 hz2 rfl (by decide) _ _ _ rfl (hrow.alloc _) ⟨W.heap.size, 0, none⟩ 1 1 [.string x] rfl rfl (cell_one_new _ _ _) (by simp [Value.oneCell']) (by simp only [maxLen]; omega) (by omega) (by have := hB.size; simp; omega) ?_; intro v' w1 hown' hgrow _; obtain ⟨g', cap', rfl⟩ := ownsRow_succ hown'; obtain ⟨hv1, hv2, hr2, hk2, hb2⟩ := hv.appended (by decide) hrow hB.size (Nat.le_refl _) hown' hgrow; have hc1 := hv1.cell; have hf1 := hv1.frozen)
    exact ⟨hk2, hb2.mono hw.size, ⟨_, hv2, by simpa using hr2, by simp⟩, hB.trans hb2⟩
  case done =>
    rintro D ys W hD rfl ⟨⟨v, hv, hrow, hnil⟩, hB⟩ hK
    have hc := hv.cell
    gi_wp2
    refine ⟨by simp, .inl ⟨_, _, rfl, run_takeDeferred hK, ?_⟩⟩
    exact ⟨_, results_tmp rfl _ _ _, v, rfl, ownsRow_putObj hrow _ hK rfl, hnil, hB.trans (belowK_b (w := w) (Nat.le_refl _) W D _ _ (by simp at hD; omega) hK rfl rfl)⟩
  case stop =>
    rintro D c pre W _ _ h _
    exact h.elim
end
set_option maxHeartbeats 1000000 in
theorem collect.walk (Bs cap : Nat) (A : Option Addr) (xs : List ByteArray) (w0 w : World) (hC : Kd.C Kd.string w0 A xs.length xs) (hlen : xs.length ≤ 100000) (hw : Below w0.heap.size w0 w) (hBs : Bs < w.heap.size)
    (hc0 : w.cell? ⟨Bs, 0, none⟩ = some (.slice A xs.length cap)) :
    Calls Tryd.prog 43 #[.func (.func 45) #[] #[.pointer (some ⟨Bs, 0, none⟩)]] w fun e W' => ∃ v, e = .returned v ∧ W'.ownsRow w.heap.size 9 1 v xs.length (xs.map Value.string) ∧ (v = .slice none 0 0 ↔ xs = []) ∧ Below w.heap.size w W' := by
  go_enter Tryd.func43, Tryd.ntmps43
  go_wp2_with (go_at_call 51; refine (callsIn_wide.1 (appendSeq Fence.wide 3 trivial trivial rfl (by omega) Bs cap A xs w0 _ hC hlen hw hBs hc0)).mono ?_; rintro e w1 ⟨v, rfl, ho, hn, hb⟩)
  go_ret
  exact ⟨v, rfl, ho, hn, hb⟩
theorem own_grow {w : World} {os : Array Obj} {base : Nat} {e : TypeId} {size n : Nat} {v : Value} {xs : List Value} (h : w.ownsRow base e size v n xs) : (Go.Sort.grow w os).ownsRow base e size v n xs := by
  refine own_move h (fun k hk => ?_)
  exact Go.Sort.heap_grow_old w os (own_lt h k hk)
theorem below_grow {B : Nat} {w0 w : World} (h : Below B w0 w) (os : Array Obj) (hB : B ≤ w.heap.size) : Below B w0 (Go.Sort.grow w os) :=
  h.trans ⟨rfl, rfl, rfl, by simp [Go.Sort.grow], fun k hk => Go.Sort.heap_grow_old w os (by omega)⟩
theorem kept_putRow {α : Type} [Inhabited α] {enc : α → Value} {w : World} {g q : Nat} {d : Array α} {os : Array Obj} {S : Nat → Prop} (hg : S g) : Kept w (Go.Sort.grow (Go.Sort.putRow enc (Go.Sort.ahead w q) g 0 d) os) S := by
  refine ⟨by simp [Go.Sort.grow, Go.Sort.putRow, Go.Sort.mapBlock, Go.Sort.ahead], fun i hi hn => ?_⟩
  rw [Go.Sort.heap_grow_old _ os (by simpa [Go.Sort.putRow, Go.Sort.mapBlock, Go.Sort.ahead] using hi)]
  simp [Go.Sort.putRow, Go.Sort.mapBlock, Go.Sort.ahead, Array.getElem?_modify]
  intro e
  subst e
  exact absurd hg hn
def toB (s : ByteArray) : List UInt8 := s.data.toList
def ofB (l : List UInt8) : ByteArray := ⟨l.toArray⟩
theorem ofB_toB (s : ByteArray) : ofB (toB s) = s := by cases s; rfl
theorem toB_ofB (l : List UInt8) : toB (ofB l) = l := by simp [toB, ofB]
theorem enc_ofB (l : List (List UInt8)) : l.map encStr = (l.map ofB).map Value.string := by rw [List.map_map]; rfl
theorem enc_toB (xs : List ByteArray) : xs.map Value.string = (xs.map toB).map encStr := by
  rw [List.map_map]
  refine List.map_congr_left (fun s _ => ?_)
  show Value.string s = Value.string (ofB (toB s))
  rw [ofB_toB]
def sortB (xs : List ByteArray) : List (List UInt8) := (xs.map toB).mergeSort (fun x y => decide (x ≤ y))
theorem sortB_len (xs : List ByteArray) : (sortB xs).length = xs.length := by unfold sortB; rw [List.length_mergeSort, List.length_map]
theorem sort44 (base : Nat) (v : Value) (xs : List ByteArray) (w : World) (hbase : base ≤ w.heap.size) (hlen : xs.length ≤ 100000) (ho : w.ownsRow base 9 1 v xs.length (xs.map Value.string)) :
    Calls Tryd.prog 44 #[v] w fun e w' => e = .returned (.tuple #[]) ∧ w'.ownsRow base 9 1 v xs.length ((sortB xs).map encStr) ∧ Below base w w' := by
  by_cases hv : v = .slice none 0 0
  · subst hv
    obtain rfl : xs = [] := by
      rcases ho.2 with ⟨_, h0⟩ | ⟨g, cap, cur, hv, _⟩
      · exact List.eq_nil_of_length_eq_zero h0
      · cases hv
    refine (Tryd.slices_Sort_string_none none 0 w).mono ?_
    rintro e w' ⟨rfl, rfl⟩
    exact ⟨rfl, by simpa [sortB] using ho, Below.refl _ _⟩
  · rw [enc_toB] at ho
    have ho' : w.ownsRow base 9 1 v (xs.map toB).length ((xs.map toB).map encStr) := by rw [List.length_map]; exact ho
    obtain ⟨g, cap, rfl, hg0, hg1, hn, hm, hl, hH⟩ := Go.Lib.holds_of_ownsRow (zs := xs.map toB) ho' hv
    rw [List.length_map] at *
    have hc := Tryd.slices_Sort_string g 0 cap (xs.map toB) w hH hg1 (by rw [List.length_map]; omega)
    rw [List.length_map] at hc
    refine hc.mono ?_
    rintro e w' ⟨rfl, q, os, rfl⟩
    have ho2 : w.ownsRow base 9 1 (.slice (some ⟨g, 0, none⟩) (xs.map toB).length cap) (xs.map toB).length ((xs.map toB).map encStr) := by rw [List.length_map]; exact ho'
    have h1 := Go.Lib.ownsRow_putRow (q := q) (ys := sortB xs) ho2 (by rw [sortB_len, List.length_map]) (Nat.le_refl _)
    rw [List.length_map, List.take_of_length_le (by rw [sortB_len]; exact Nat.le_refl _)] at h1
    refine ⟨rfl, own_grow h1, below_grow (Go.Lib.below_putRow (Below.refl _ _) hg0) os ?_⟩
    simpa [Go.Sort.putRow, Go.Sort.mapBlock, Go.Sort.ahead] using hbase
set_option maxHeartbeats 1000000 in
theorem sorted.walk (Bs cap : Nat) (A : Option Addr) (xs : List ByteArray) (w0 w : World) (hC : Kd.C Kd.string w0 A xs.length xs) (hlen : xs.length ≤ 100000) (hw : Below w0.heap.size w0 w) (hBs : Bs < w.heap.size)
    (hc0 : w.cell? ⟨Bs, 0, none⟩ = some (.slice A xs.length cap)) :
    Calls Tryd.prog 35 #[.func (.func 45) #[] #[.pointer (some ⟨Bs, 0, none⟩)]] w fun e W' => ∃ v, e = .returned v ∧ W'.ownsRow w.heap.size 9 1 v xs.length ((sortB xs).map encStr) ∧ Below w.heap.size w W' := by
  have HL := Aside0.mk hlen
  have HW := Aside0.mk hw
  have HC := Aside0.mk hC
  have HB0 := Aside0.mk hBs
  have HC0 := Aside0.mk hc0
  clear hlen hw hC hBs hc0
  go_enter Tryd.func35, Tryd.ntmps35
  go_wp2_with (first | (go_at_call 43; refine (collect.walk Bs cap A xs w0 _ HC.out HL.out HW.out HB0.out HC0.out).mono ?_; rintro e w1 ⟨v, rfl, ho, hn, hb⟩; have HO := Aside0.mk ho; have HB := Aside0.mk hb; clear ho hn hb) | (go_at_call 44; refine (sort44 w.heap.size _ xs _ HB.out.size HL.out HO.out).mono ?_; rintro e w2 ⟨rfl, ho2, hb2⟩; have HO2 := Aside0.mk ho2; have HB2 := Aside0.mk (HB.out.trans hb2); clear ho2 hb2))
  go_ret
  exact ⟨_, rfl, HO2.out, HB2.out⟩
theorem compact34 (base : Nat) (v : Value) (n : Nat) (zs : List (List UInt8)) (w : World) (hn : zs.length = n) (hlen : n ≤ 100000) (ho : w.ownsRow base 9 1 v n (zs.map encStr)) :
    Calls Tryd.prog 34 #[v] w fun e w' => ∃ v', e = .returned v' ∧ w'.ownsRow base 9 1 v' (Lib.compact zs).length ((Lib.compact zs).map encStr) ∧ Below base w w' := by
  subst hn
  by_cases hv : v = .slice none 0 0
  · subst hv
    obtain rfl : zs = [] := by
      rcases ho.2 with ⟨_, h0⟩ | ⟨g, cap, cur, hv, _⟩
      · exact List.eq_nil_of_length_eq_zero h0
      · cases hv
    refine (Tryd.slices_Compact_string_empty none 0 w).mono ?_
    rintro e w' ⟨rfl, rfl⟩
    exact ⟨_, rfl, ho, Below.refl _ _⟩
  · obtain ⟨g, cap, rfl, hg0, hg1, hn, hm, hl, hH⟩ := Go.Lib.holds_of_ownsRow (zs := zs) ho hv
    refine (Tryd.slices_Compact_string g 0 cap zs w hH (by omega) (by omega)).mono ?_
    rintro e w' ⟨rfl, q, rfl⟩
    have hle := Go.Lib.compact_length_le zs
    have h1 := Go.Lib.ownsRow_putRow (q := q) (ys := Lib.compact zs ++ List.replicate (zs.length - (Lib.compact zs).length) []) (k := (Lib.compact zs).length) ho (by rw [List.length_append, List.length_replicate]; omega) hle
    rw [List.take_left] at h1
    exact ⟨_, rfl, h1, Go.Lib.below_putRow (Below.refl _ _) hg0⟩
set_option maxHeartbeats 1000000 in
theorem bad33 (s : ByteArray) (r : Int) (w : World) (h : name_Check.f s = some r) : Calls Tryd.prog 33 #[.string s] w fun e w' => e = .returned (.bool (r != 0)) ∧ Drawn0 w w' := by
  have HC := Aside0.mk h
  clear h
  go_enter Tryd.func33, Tryd.ntmps33
  go_wp2_with (go_at_call 18; (with_reducible refine (name_Check.calls s r _ HC.out).mono ?_); rintro e w1 ⟨rfl, ⟨nd, rfl⟩⟩)
  go_ret
  exact ⟨rfl, ⟨nd, rfl⟩⟩
def mayB (s : ByteArray) : Bool := decide (1 ≤ s.size ∧ s.size ≤ 24)
theorem check_may (s : ByteArray) : name_Check.f s = some (if mayB s = true then 0 else 6) := by
  unfold name_Check.f mayB
  by_cases h0 : (s.size : Int) < 1
  · rw [if_pos h0, if_neg (by simp; omega)]
  · by_cases h1 : (s.size : Int) > 24
    · rw [if_neg h0, if_pos h1, if_neg (by simp; omega)]
    · rw [if_neg h0, if_neg h1, if_pos (by simp; omega)]
def badAny (l : List ByteArray) : Bool := l.any fun s => !mayB s
theorem badAny_take (l : List ByteArray) (k : Nat) (hk : k < l.length) : badAny (l.take (k + 1)) = (badAny (l.take k) || !mayB l[k]) := by
  unfold badAny
  rw [List.take_succ_eq_append_getElem hk, List.any_append]
  simp
set_option maxHeartbeats 4000000 in
set_option maxRecDepth 100000 in
theorem indexFunc.walk (A : Option Addr) (cap : Nat) (xs : List ByteArray) (w : World) (hC : Kd.C Kd.string w A xs.length xs) (hlen : xs.length ≤ 100000) :
    Calls Tryd.prog 42 #[.slice A xs.length cap, .func (.func 33) #[] #[]] w fun e w' => ∃ r : Int, e = .returned (.int .i64 r) ∧ decide (r ≥ 0) = badAny xs ∧ Below w.heap.size w w' := by
  have HB := Aside0.mk (Below.refl w.heap.size w)
  have HC := Aside0.mk hC
  have HL := Aside0.mk hlen
  clear hC hlen
  go_enter Tryd.func42, Tryd.ntmps42
  go_wp2
  go_loopg [8] xs.length (fun kq v8 wr => ∃ k : Nat, v8 = .int .i64 (k : Int) ∧ Aside0 (k ≤ xs.length ∧ xs.length - k ≤ kq) ∧ Aside0 (badAny (xs.take k) = false) ∧ Aside0 (Below w.heap.size w wr))
  case atStart => exact ⟨0, rfl, Aside0.mk ⟨by omega, by omega⟩, Aside0.mk rfl, HB⟩
  case round =>
    clear HB
    obtain ⟨k, rfl, AX, HN, HB⟩ := hrel
    by_cases hlt : k < xs.length
    · obtain ⟨ad, eA, hx⟩ := str_elem (Kd.C_below HC.out HB.out) k hlt
      subst eA
      obtain ⟨x, hxx⟩ : ∃ x, xs[k] = x := ⟨_, rfl⟩
      rw [hxx] at hx
      have ht := badAny_take xs k hlt
      rw [hxx] at ht
      have HT := Aside0.mk ht
      have b1 : decide ((k : Int) < (xs.length : Int)) = true := decide_eq_true (by omega)
      have b2 : decide (k < xs.length) = true := decide_eq_true hlt
      have b3 : (k < xs.length) = True := eq_true hlt
      have HK := Aside0.mk hlt
      clear hlt hxx ht
      by_cases hm : mayB x = true
      · have HM := Aside0.mk (show name_Check.f x = some 0 by rw [check_may, if_pos hm])
        have HMM := Aside0.mk hm
        clear hm
        go_wp2_with (go_at_call 33; (with_reducible refine (bad33 x 0 _ HM.out).mono ?_); rintro e w1 ⟨rfl, ⟨nd, rfl⟩⟩)
        go_roundg (gk - 1)
        case measure =>
          have := AX.out
          have := HK.out
          omega
        case rel =>
          have h1 := AX.out
          have h2 := HK.out
          exact ⟨k + 1, by rw [show wrap64 ((k : Int) + 1) = ((k + 1 : Nat) : Int) by have := HL.out; unfold wrap64; omega], Aside0.mk ⟨by omega, by omega⟩, Aside0.mk (by rw [HT.out, HN.out, HMM.out]; rfl), Aside0.mk (by repeat (first | exact HB.out | apply below_alloc | apply pw_below_drewN | apply below_drew1))⟩
      · have HM := Aside0.mk (show name_Check.f x = some 6 by rw [check_may, if_neg hm])
        have hm : mayB x = false := by simpa using hm
        have HMM := Aside0.mk hm
        clear hm
        go_wp2_with (go_at_call 33; (with_reducible refine (bad33 x 6 _ HM.out).mono ?_); rintro e w1 ⟨rfl, ⟨nd, rfl⟩⟩)
        go_ret
        refine ⟨(k : Int), rfl, ?_, (by repeat (first | exact HB.out | apply below_alloc | apply pw_below_drewN | apply below_drew1))⟩
        have h1 : badAny xs = true := by
          have h := HT.out
          rw [HMM.out] at h
          unfold badAny at h ⊢
          simp only [Bool.not_false, Bool.or_true, List.any_eq_true] at h ⊢
          obtain ⟨y, hy, hb⟩ := h
          exact ⟨y, List.mem_of_mem_take hy, hb⟩
        rw [h1]
        exact decide_eq_true (by omega)
    · have b1 : decide ((k : Int) < (xs.length : Int)) = false := decide_eq_false (by omega)
      have b2 : decide (k < xs.length) = false := decide_eq_false hlt
      have e : k = xs.length := by
        have := AX.out
        omega
      have HF := Aside0.mk (show badAny xs = false by have := HN.out; rw [e, List.take_length] at this; exact this)
      clear hlt e
      go_wp2
      go_ret
      exact ⟨-1, rfl, by rw [HF.out]; rfl, HB.out⟩
set_option maxHeartbeats 1000000 in
theorem containsFunc.walk (A : Option Addr) (cap : Nat) (xs : List ByteArray) (b : Bool) (w : World) (hC : Kd.C Kd.string w A xs.length xs) (hlen : xs.length ≤ 100000) (hb : badAny xs = b) :
    Calls Tryd.prog 32 #[.slice A xs.length cap, .func (.func 33) #[] #[]] w fun e w' => e = .returned (.bool b) ∧ Below w.heap.size w w' := by
  have HC := Aside0.mk hC
  have HL := Aside0.mk hlen
  have HBB := Aside0.mk hb
  clear hC hlen hb
  go_enter Tryd.func32, Tryd.ntmps32
  go_wp2_with (go_at_call 42; refine (indexFunc.walk A cap xs _ HC.out HL.out).mono ?_; rintro e w1 ⟨r, rfl, hr, hb⟩; rw [HBB.out] at hr; have HB := Aside0.mk hb; clear hb)
  go_ret
  exact ⟨rfl, HB.out⟩
/-- What name.Sort answers. -/
def name_Sort.f (l : List ByteArray) : Option (List ByteArray × Int) := some (if l.length > 65536 then ([], 20) else if badAny l = true then ([], 6) else ((Lib.compact (sortB l)).map ofB, 0))
set_option maxHeartbeats 4000000 in
set_option maxRecDepth 100000 in
theorem name_Sort.calls (A0 : Option Addr) (c0 : Nat) (l0 : List ByteArray) (r1 : List ByteArray) (r2 : Int) (w : World) (hr0 : Kd.C Kd.string w A0 l0.length l0) (hc0 : l0.length ≤ c0) (h : name_Sort.f l0 = some (r1, r2)) :
    Calls Tryd.prog 15 #[.slice A0 l0.length c0] w fun e w' => ∃ v0_ : Value, e = .returned (.tuple #[v0_, .int .i64 r2]) ∧ Kd.R Kd.string 9 w' w.heap.size (fun _ => True) v0_ r1 ∧ Below w.heap.size w w' := by
  unfold name_Sort.f at h
  have HB := Aside0.mk (Below.refl w.heap.size w)
  have HC := Aside0.mk hr0
  by_cases hl : l0.length > 65536
  · rw [if_pos hl] at h
    injection h with h
    injection h with h1 h2
    subst h1 h2
    have b1 : decide ((l0.length : Int) > 65536) = true := decide_eq_true (by omega)
    have b2 : decide (l0.length > 65536) = true := decide_eq_true hl
    have b3 : decide ((65536 : Int) < (l0.length : Int)) = true := decide_eq_true (by omega)
    clear hr0 hl
    go_enter Tryd.func15, Tryd.ntmps15
    go_wp2
    go_ret2
    exact ⟨_, rfl, Kd.R_nil _ _ _ _ _, HB.out⟩
  rw [if_neg hl] at h
  have b1 : decide ((l0.length : Int) > 65536) = false := decide_eq_false (by omega)
  have b2 : decide (l0.length > 65536) = false := decide_eq_false hl
  have b3 : decide ((65536 : Int) < (l0.length : Int)) = false := decide_eq_false (by omega)
  have HL := Aside0.mk (show l0.length ≤ 100000 by omega)
  obtain ⟨b, hb⟩ : ∃ b, badAny l0 = b := ⟨_, rfl⟩
  have HBB := Aside0.mk hb
  rw [hb] at h
  cases b with
  | true =>
    rw [if_pos rfl] at h
    injection h with h
    injection h with h1 h2
    subst h1 h2
    clear hr0 hl hb
    go_enter Tryd.func15, Tryd.ntmps15
    go_wp2_with (go_at_call 32; (with_reducible refine (containsFunc.walk A0 c0 l0 true _ HC.out HL.out HBB.out).mono ?_); rintro e w1 ⟨rfl, hb⟩; clear HB; have HB := Aside0.mk hb; clear hb)
    go_ret2
    exact ⟨_, rfl, Kd.R_nil _ _ _ _ _, HB.out⟩
  | false =>
    rw [if_neg (by decide)] at h
    injection h with h
    injection h with h1 h2
    subst h1 h2
    clear hr0 hl hb
    go_enter Tryd.func15, Tryd.ntmps15
    go_wp2_with (first | (go_at_call 32; (with_reducible refine (containsFunc.walk A0 c0 l0 false _ HC.out HL.out HBB.out).mono ?_); rintro e w1 ⟨rfl, hb⟩; clear HB; have HB := Aside0.mk hb; clear hb) | (go_at_call 36; refine (callsIn_wide.1 (values_in Fence.wide 3 trivial rfl _ _ _ _)).mono ?_; rintro e w2 ⟨rfl, hw2⟩; have HW2 := Aside0.mk (show Below w.heap.size w w2 by rw [hw2]; exact HB.out.alloc HB.out.size _); have HCB := Aside0.mk (show w2.cell? ⟨w1.heap.size, 0, none⟩ = some (.slice A0 l0.length c0) by rw [hw2]; exact (Boxed.new w1 32 _).cell); have HSZ := Aside0.mk (show w1.heap.size < w2.heap.size by rw [hw2]; simp); clear hw2 HB) | (go_at_call 35; refine (sorted.walk w1.heap.size c0 A0 l0 w _ HC.out HL.out HW2.out HSZ.out HCB.out).mono ?_; rintro e w3 ⟨v3, rfl, ho3, hb3⟩; have HO3 := Aside0.mk ho3; have HB3 := Aside0.mk hb3; clear ho3 hb3) | (go_at_call 34; refine (compact34 w2.heap.size _ l0.length (sortB l0) _ (sortB_len l0) HL.out HO3.out).mono ?_; rintro e w4 ⟨v4, rfl, ho4, hb4⟩; have HO4 := Aside0.mk ho4; have HB4 := Aside0.mk (HB3.out.trans hb4); clear ho4 hb4))
    go_ret2
    refine ⟨_, rfl, ?_, HW2.out.trans (HB4.out.mono HW2.out.size)⟩
    have ho := HO4.out
    rw [enc_ofB] at ho
    exact Kd.R_lower (Kd.R_of_own (by rw [List.length_map]; exact ho) (fun _ _ => trivial)) HW2.out.size
end Go.Proofs.YtmhfgcmgeglmhaaDoor.P
