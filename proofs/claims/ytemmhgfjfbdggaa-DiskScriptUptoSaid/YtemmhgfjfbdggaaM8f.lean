import Derived.Test.YtemmhgfjfbdggaaM8c
import Derived.Test.YtemmhgfjfbdggaaM8h
import Derived.Test.YtemmhgfjfbdggaaP0Brief
namespace Go.Proofs.Ytemmhgfjfbdggaa.P
open Go.RowKit Go.Proofs.YtemmhgfjfbdggaaW.PrintWords Go.Proofs.YtemmhgfjfbdggaaW.PrintLast Go.Proofs.YtemmhgfjfbdggaaW.PrintMore
attribute [local go_sem] max2_int min2_int max_two min_two max_three min_three max_four min_four
set_option linter.unusedVariables false
set_option linter.unusedSimpArgs false
theorem info5 : (Try.prog.info? 5).map (fun i => (i.zero, i.size, i.bytes)) = some (some (.int .u8 0), 1, 1) := by kernel_rfl
def Wb (W : World) (ok : Nat → Prop) (v : Value) (n : Nat) : Prop :=
 (v = .slice none 0 0 ∧ n = 0) ∨ ∃ (g cap : Nat) (cells : Array Value) (f : Nat × Nat), v = .slice (some ⟨g, 0, none⟩) n cap ∧ ok g ∧ n ≤ cap ∧ cap ≤ cells.size ∧ W.heap[g]? = some (.cells cells 5 f) ∧ (∀ i, i < n → ∃ b : Int, cells[i]? = some (.int .u8 b)) ∧ ∀ i, i < cap → ¬ (f.1 ≤ i ∧ i < f.2)
section
variable {W W1 w0 : World} {ok ok' : Nat → Prop} {v : Value} {n base : Nat}
theorem Wb.mono (h : Wb W ok v n) (hok : ∀ k, ok k → ok' k) : Wb W ok' v n := by
 rcases h with h | ⟨g, cap, cells, f, h1, h2, r⟩
 ·
  exact .inl h
 ·
  exact .inr ⟨g, cap, cells, f, h1, hok g h2, r⟩
theorem Wb.step (h : Wb W ok v n) (hm : ∀ k, ok k → k < W.heap.size → W1.heap[k]? = W.heap[k]?) : Wb W1 ok v n := by
 rcases h with h | ⟨g, cap, cells, f, h1, h2, h3, h4, h5, r⟩
 ·
  exact .inl h
 ·
  exact .inr ⟨g, cap, cells, f, h1, h2, h3, h4, (hm g h2 (blk_lt h5)).trans h5, r⟩
theorem Wb.below (h : Wb W ok v n) (hb : Below W.heap.size W W1) : Wb W1 ok v n := h.step (fun k _ hk => hb.block k hk)
theorem Wb.far (h : Wb W ok v n) {g j : Nat} (hg : ∀ k, ok k → k ≠ g) (u : Value) : Wb (W.setCell ⟨g, j, none⟩ u) ok v n := h.step (fun k hk _ => Below.heap_setCell W ⟨g, j, none⟩ u k (hg k hk))
theorem Wb.set (h : Wb W ok v n) (g j : Nat) (b : Int) : Wb (W.setCell ⟨g, j, none⟩ (.int .u8 b)) ok v n := by
 rcases h with h | ⟨g', cap, cells, f, h1, h2, h3, h4, h5, h6, h7⟩
 ·
  exact .inl h
 ·
  by_cases e : g' = g
  ·
   subst e
   refine .inr ⟨g', cap, cells.setIfInBounds j (.int .u8 b), f, h1, h2, h3, by rw [Array.size_setIfInBounds]; exact h4, by simp [World.setCell, Array.getElem?_modify, h5], fun i hi => ?_, h7⟩
   rw [Array.getElem?_setIfInBounds]
   split
   ·
    split
    ·
     exact ⟨b, rfl⟩
    ·
     obtain ⟨c, hc⟩ := h6 i hi
     rename_i h8 h9
     subst h8
     rw [Array.getElem?_eq_none (by omega)] at hc
     cases hc
   ·
    exact h6 i hi
  ·
   exact .inr ⟨g', cap, cells, f, h1, h2, h3, h4, (Below.heap_setCell W ⟨g, j, none⟩ (.int .u8 b) g' e).trans h5, h6, h7⟩
theorem Wb.cell {g cap i : Nat} (h : Wb W ok (.slice (some ⟨g, 0, none⟩) n cap) n) (hi : i < n) : (∃ b : Int, W.cell? ⟨g, i, none⟩ = some (.int .u8 b)) ∧ W.frozen? ⟨g, i, none⟩ = false ∧ ok g := by
 rcases h with ⟨h, _⟩ | ⟨g', cap', cells, f, h1, h2, h3, h4, h5, h6, h7⟩
 ·
  cases h
 ·
  injection h1 with e1 _ e3
  injection e1 with e1
  injection e1 with e1
  subst e1 e3
  obtain ⟨b, hb⟩ := h6 i hi
  have h8 := h7 i (by omega)
  refine ⟨⟨b, ?_⟩, ?_, h2⟩
  ·
   simp [World.cell?, h5, hb]
  ·
   simp only [World.frozen?, h5]
   simp
   omega
theorem Wb.shape (h : Wb W ok v n) : ∃ A c, v = .slice A n c := by
 rcases h with ⟨rfl, rfl⟩ | ⟨g, cap, cells, f, rfl, _⟩
 ·
  exact ⟨_, _, rfl⟩
 ·
  exact ⟨_, _, rfl⟩
theorem Wb.of_R {xs : List Int} (h : (Kd.int .u8).R 5 W base ok v xs) : Wb W ok v xs.length := by
 have ho := Kd.own_of_R (enc := Value.int .u8) h
 rcases ho.2 with ⟨rfl, h0⟩ | ⟨g, cap, cur, rfl, hg, hh, hn, hm, hs, ht⟩
 ·
  exact .inl ⟨rfl, h0⟩
 ·
  refine .inr ⟨g, cap, cur, (0, 0), rfl, h.1 g rfl, hn, by omega, hh, fun i hi => ?_, fun i _ => by omega⟩
  have h1 : (cur.toList.take (xs.length * 1))[i]? = (encs (Value.int .u8) xs)[i]? := by rw [ht]
  rw [List.getElem?_take, if_pos (by omega)] at h1
  unfold encs at h1
  rw [List.getElem?_map, List.getElem?_eq_getElem hi] at h1
  exact ⟨xs[i], by rw [← Array.getElem?_toList]; exact h1⟩
end
section
variable {P : Program} {ops : Array Oper} {o : Oper} {a : Act} {Q : Exit → Act → World → Prop} {K : Act → World → Prop}
theorem Wb_append_step {W w0 : World} {base : Nat} {ok : Nat → Prop} {v : Value} {n : Nat} (b : Int) (hw : Region.wanted o (yielded ops a.tmps) = true) (s x : Operand) (t : TypeId)
  (ho : o.op = .call { callee := .builtin .append, args := #[s, x], argTypes := #[t, t] }) (ht : P.underlying t = some (.slice 5)) (hinfo : (P.info? 5).map (fun i => (i.zero, i.size, i.bytes)) = some (some (.int .u8 0), 1, 1))
  (hs : a.eval s = v) (hx : a.eval x = .slice (some ⟨W.heap.size, 0, none⟩) 1 1) (HO : Wb W ok v n) (hok : ∀ k, ok k → base ≤ k) (HB : Below base w0 W) (hbase : base ≤ W.heap.size) (hl : n + 1 ≤ 140737488355328)
  (h : ∀ A c w1, Below base w0 w1 → Kept W w1 ok → (∀ ok' v' n', Wb W ok' v' n' → Wb w1 ok' v' n') → K (a.put o.dst (.slice A (n + 1) c)) w1) :
  if Region.wanted o (yielded ops a.tmps) = true then Oper.wp P o a (W.alloc (.cells #[.int .u8 b] 5)) K Q else K (a.put o.dst undef) (W.alloc (.cells #[.int .u8 b] 5)) := by
 obtain ⟨i0, hi, hzz⟩ := Option.map_eq_some_iff.1 hinfo
 simp only [Prod.mk.injEq] at hzz
 obtain ⟨hz0, hz1, hz2⟩ := hzz
 have hml : n + 1 ≤ maxLen := by simp only [maxLen]; omega
 have hnews : ∀ j u, ([Value.int .u8 b] : List Value)[j]? = some u → (W.alloc (.cells #[.int .u8 b] 5)).cell? ((⟨W.heap.size, 0, none⟩ : Addr).add j) = some u := by
  simpa using World.news_of_block (cs := #[.int .u8 b]) (t := 5) (fr := (0, 0)) (heap_alloc_new W (.cells #[.int .u8 b] 5))
 have hone : ∀ u ∈ ([Value.int .u8 b] : List Value), u.oneCell' = true := by
  intro u hu
  rw [List.mem_singleton.1 hu]
  rfl
 have hba : Below W.heap.size W (W.alloc (.cells #[.int .u8 b] 5)) := below_alloc (Below.refl _ _) _
 rw [if_pos hw]
 unfold Oper.wp execOp
 rcases HO with ⟨rfl, rfl⟩ | ⟨g, cap, cells, f, rfl, h2, h3, h4, h5, h6, h7⟩
 ·
  obtain ⟨v1, w1, hr, hown, hg, _⟩ := run_append_own_at (P := P) (W.alloc (.cells #[.int .u8 b] 5)) base t o.type 5 i0 (.int .u8 0) 1 1 ht hi hz0 hz1 hz2 rfl (by decide) (.slice none 0 0) 0 [] (World.ownsRow_nil _ _ _ _) ⟨W.heap.size, 0, none⟩ 1 1 [.int .u8 b] rfl hnews hone hml (by omega) (by simp; omega)
  simp only [ho, resolve, invoke, builtin, Sem.run_bind, Sem.run_pure, Result.andThen_ok, List.map_toArray, List.map_cons, List.map_nil, hs, hx, hr]
  have hgw : W.grownBy w1 none := World.grownBy.trans (World.grownBy_alloc W _ _) hg
  have hkeep : ∀ k, k < W.heap.size → w1.heap[k]? = W.heap[k]? := fun k hk => hgw.block k hk (by simp)
  have hv : ∃ A c, v1 = .slice A (0 + 1) c := by
   rcases hown.2 with ⟨h, e⟩ | ⟨g, cap, cur, rfl, _⟩
   ·
    exact absurd e (by decide)
   ·
    exact ⟨_, _, rfl⟩
  obtain ⟨A, c, rfl⟩ := hv
  exact h A c w1 ((HB.alloc hbase _).grown hg (by simp; omega) (fun k hk => by simp [Value.ownBlock] at hk)) ⟨hgw.size, fun i hi _ => hkeep i hi⟩ (fun ok' v' n' hq => hq.step (fun k _ hk => hkeep k hk))
 ·
  have hgl : g < W.heap.size := blk_lt h5
  have hga : (W.alloc (.cells #[.int .u8 b] 5)).heap[g]? = some (.cells cells 5 f) := (hba.block g hgl).trans h5
  by_cases hroom : n + 1 ≤ cap
  ·
   have hsz : i0.size = 1 := hz1
   have hr := run_append_room_cells (P := P) (W.alloc (.cells #[.int .u8 b] 5)) t o.type 5 i0 ht hi g 0 n cap ⟨W.heap.size, 0, none⟩ 1 1 [.int .u8 b] (by rw [hsz]; rfl) hnews hone hroom
    (fun j hj => by
     have hj0 : j = 0 := by simpa using hj
     subst hj0
     rw [hsz, Nat.zero_add, Nat.mul_one, Nat.add_zero]
     simp only [World.cell?, hga]
     simp
     omega)
    (fun j hj => by
     have hj0 : j = 0 := by simpa using hj
     subst hj0
     rw [hsz, Nat.zero_add, Nat.mul_one, Nat.add_zero]
     have := h7 n (by omega)
     simp only [World.frozen?, hga]
     simp
     omega)
   simp only [ho, resolve, invoke, builtin, Sem.run_bind, Sem.run_pure, Result.andThen_ok, List.map_toArray, List.map_cons, List.map_nil, hs, hx, hr]
   rw [hsz, Nat.zero_add, Nat.mul_one]
   have hkp : Kept W ((W.alloc (.cells #[.int .u8 b] 5)).setCell ⟨g, n, none⟩ (.int .u8 b)) ok := ((Kept.refl W ok).alloc _).setCell (p := ⟨g, n, none⟩) (.inl h2) _
   exact h _ cap _ ((HB.alloc hbase _).setCell (p := ⟨g, n, none⟩) (hok g h2) _) hkp (fun ok' v' n' hq => (hq.below hba).set g n b)
  ·
   have hcells : ∃ olds : List Value, olds.length = n ∧ ∀ j u, olds[j]? = some u → (W.alloc (.cells #[.int .u8 b] 5)).cell? ((⟨g, 0, none⟩ : Addr).add j) = some u := by
    refine ⟨cells.toList.take n, by rw [List.length_take, Array.length_toList]; omega, fun j u hj => ?_⟩
    rw [List.getElem?_take] at hj
    split at hj
    ·
     rw [Addr.add_lit]
     simp only [World.cell?, hga]
     rw [Array.getElem?_toList] at hj
     simpa using hj
    ·
     cases hj
   obtain ⟨olds, hlo, holds⟩ := hcells
   obtain ⟨v1, w1, hr, hown, hg⟩ := run_append_arg_grows (P := P) (W.alloc (.cells #[.int .u8 b] 5)) t o.type 5 i0 (.int .u8 0) 1 1 ht hi hz0 hz1 hz2 rfl (by decide) ⟨g, 0, none⟩ n cap olds (by rw [Nat.mul_one]; exact hlo) holds ⟨W.heap.size, 0, none⟩ 1 1 [.int .u8 b] rfl hnews (by omega) hml (by omega)
   simp only [ho, resolve, invoke, builtin, Sem.run_bind, Sem.run_pure, Result.andThen_ok, List.map_toArray, List.map_cons, List.map_nil, hs, hx, hr]
   have hgw : W.grownBy w1 none := World.grownBy.trans (World.grownBy_alloc W _ _) hg
   have hkeep : ∀ k, k < W.heap.size → w1.heap[k]? = W.heap[k]? := fun k hk => hgw.block k hk (by simp)
   have hv : ∃ A c, v1 = .slice A (n + 1) c := by
    rcases hown.2 with ⟨h, e⟩ | ⟨g, cap, cur, rfl, _⟩
    ·
     omega
    ·
     exact ⟨_, _, rfl⟩
   obtain ⟨A, c, rfl⟩ := hv
   exact h A c w1 ((HB.alloc hbase _).grown hg (by simp; omega) (fun k hk => by simp at hk)) ⟨hgw.size, fun i hi _ => hkeep i hi⟩ (fun ok' v' n' hq => hq.step (fun k _ hk => hkeep k hk))
end
theorem conv_Wb (W : World) (s : ByteArray) : Wb (Lib.bytesWorld W 5 s) (fun k_ => W.heap.size ≤ k_) (.slice (some ⟨W.heap.size, 0, none⟩) s.size (grownCap W s.size 0 5)) s.size := by
 have hge := grownCap_ge W s.size 0 5
 have hsz : (Lib.bytesCells W 5 s).size = grownCap W s.size 0 5 := by
  unfold Lib.bytesCells
  rw [Array.size_append, Array.size_map, Array.size_replicate]
  have : s.data.size = s.size := rfl
  omega
 refine .inr ⟨W.heap.size, _, _, _, rfl, Nat.le_refl _, hge, by rw [hsz]; exact Nat.le_refl _, Lib.bytesWorld_at_new W 5 s, fun i hi => ?_, fun i hi h => ?_⟩
 ·
  have h1 : i < s.data.size := hi
  unfold Lib.bytesCells
  refine ⟨((s.data[i]).toNat : Int), ?_⟩
  rw [Array.getElem?_append_left (by rw [Array.size_map]; exact h1), Array.getElem?_map, Array.getElem?_eq_getElem h1]
  rfl
 ·
  have h1 := h.1
  have h2 : (Lib.bytesCells W 5 s).size ≤ i := h1
  omega
theorem conv_bytesW {P : Program} {ops : Array Oper} {rest : List Oper} {o : Oper} {a : Act} {Q : Exit → Act → World → Prop} {W : World} {src dst : TypeId} {x : Operand} {u : TypeDesc} (N : Tmp) (hd : o.dst = some N) (hg : o.guard = none) (ho : o.op = .convert src dst x)
  (hs : P.underlying src = some u) (ht : P.underlying dst = some (.slice 5)) (he : P.underlying 5 = some (.int .u8)) (l : List Int) (hB : IsB l) (hx : a.eval x = .string (strOfNums l)) (hl : l.length ≤ 1048576)
  (k : ∀ v w1, Kd.V (Kd.int .u8) 5 w1 W.heap.size (fun k_ => W.heap.size ≤ k_) v l → Wb w1 (fun k_ => W.heap.size ≤ k_) v l.length → Below W.heap.size W w1 → wpList P ops Q rest (a.put (some N) v) w1) : wpList P ops Q (o :: rest) a W := by
 have hrun : (execOp a.eval o).run P W = .ok (.value (.slice (some ⟨W.heap.size, 0, none⟩) (strOfNums l).size (grownCap W (strOfNums l).size 0 5))) (Lib.bytesWorld W 5 (strOfNums l)) := by
  unfold execOp
  simp only [ho, hx, Sem.run_bind, print_bytes src dst 5 hs ht he (strOfNums l) W, Result.andThen_ok, Sem.run_pure]
 refine Kd.event_run hg hrun ?_
 rw [hd]
 have h1 := conv_bytes.reads W 5 (strOfNums l) (by rw [strOfNums_size]; omega)
 rw [bytesOf_str hB] at h1
 have h2 := conv_Wb W (strOfNums l)
 rw [strOfNums_size] at h2
 rw [← strOfNums_size] at h2
 refine k _ _ h1 ?_ (bytes_below (Below.refl _ _) (Nat.le_refl _) 5 (strOfNums l))
 rw [strOfNums_size] at h2 ⊢
 exact h2
set_option maxHeartbeats 8000000 in
set_option maxRecDepth 100000 in
theorem RBytes (A : Option Addr) (cc : Nat) (l : List Int) (w : World) (hC : Kd.C (Kd.int .u8) w A l.length l) (hB : IsB l) (hl : l.length ≤ 1048576) :
  Calls Try.prog 33 #[.slice A l.length cc] w fun e w' => ∃ v : Value, e = .returned v ∧ Kd.V (Kd.int .u8) 5 w' w.heap.size (fun k_ => w.heap.size ≤ k_) v l ∧ Wb w' (fun k_ => w.heap.size ≤ k_) v l.length ∧ Below w.heap.size w w' := by
 by_cases h0 : l.length = 0
 ·
  obtain rfl : l = [] := List.eq_nil_of_length_eq_zero h0
  have c1 : ((([] : List Int).length : Int) == 0) = true := rfl
  go_enter Try.func33, Try.ntmps33
  go_wp2
  go_ret
  exact ⟨.slice none 0 0, rfl, Kd.V_nil _ _ _ _ _, .inl ⟨rfl, rfl⟩, Below.refl _ _⟩
 ·
  have c2b0 : ((l.length : Int) == 0) = false := beq_eq_false_iff_ne.mpr (by omega)
  have c2b1 : ((l.length : Int) != 0) = true := bne_iff_ne.mpr (by omega)
  have c2b2 : ¬ (l = []) := fun h_ => h0 (by rw [h_]; rfl)
  have hcv4 := Kd.C_string (P := Try.prog) (A := A) (c := cc) Try.underlying45 Try.underlying5 Try.underlying9 hC
  have HBy := Aside0.mk hB
  have HL := Aside0.mk hl
  clear hC hB hl h0
  go_enter Try.func33, Try.ntmps33
  go_wp2_with (first | ((with_reducible refine gate_dst (N := 8) rfl ?_); refine conv_bytesW 8 rfl rfl rfl Try.underlying9 Try.underlying45 Try.underlying5 l HBy.out (by first | rfl | (go_simp; done)) HL.out ?_; intro v w1 ho hw hb; have HV := Aside0.mk ho; have HW := Aside0.mk hw; have HB := Aside0.mk hb; clear ho hw hb))
  go_ret
  exact ⟨_, rfl, HV.out, HW.out, HB.out⟩
end Go.Proofs.Ytemmhgfjfbdggaa.P
namespace Go.Proofs.Ytemmhgfjfbdggaa.P
open Go.RowKit Go.Proofs.YtemmhgfjfbdggaaW.PrintWords Go.Proofs.YtemmhgfjfbdggaaW.PrintLast Go.Proofs.YtemmhgfjfbdggaaW.PrintMore
attribute [local go_sem] max2_int min2_int max_two min_two max_three min_three max_four min_four
set_option linter.unusedVariables false
set_option linter.unusedSimpArgs false
theorem Wb.some {W : World} {ok : Nat → Prop} {A : Option Addr} {n c : Nat} (h : Wb W ok (.slice A n c) n) (hn : 0 < n) : ∃ g, A = some ⟨g, 0, none⟩ := by
 rcases h with ⟨_, h⟩ | ⟨g, cap, cells, f, h1, _⟩
 ·
  omega
 ·
  injection h1 with h1 _ _
  exact ⟨g, h1⟩
theorem cell_not {W : World} {g j g' j' : Nat} {u v : Value} (h : W.cell? ⟨g, j, none⟩ = Option.some v) (hne : g ≠ g' ∨ j ≠ j') : (W.setCell ⟨g', j', none⟩ u).cell? ⟨g, j, none⟩ = Option.some v := by
 rw [World.cell?_setCell_other]
 ·
  exact h
 ·
  intro e
  injection e with e1 e2 _
  rcases hne with h | h
  ·
   exact h e1.symm
  ·
   exact h e2.symm
theorem tyb_below {W W1 : World} {go T : Nat} (h : ∃ cells, W.heap[go]? = some (.cells cells T (0, 0))) (hb : Below W.heap.size W W1) : ∃ cells, W1.heap[go]? = some (.cells cells T (0, 0)) := by
 obtain ⟨cells, h⟩ := h
 exact ⟨cells, (hb.block go (blk_lt h)).trans h⟩
theorem tyb_kept {W W1 : World} {go T : Nat} {ok : Nat → Prop} (h : ∃ cells, W.heap[go]? = some (.cells cells T (0, 0))) (hk : Kept W W1 ok) (hg : ¬ ok go) : ∃ cells, W1.heap[go]? = some (.cells cells T (0, 0)) := by
 obtain ⟨cells, h⟩ := h
 exact ⟨cells, blk_kept h hk hg⟩
theorem tyb_set {W : World} {go T : Nat} (h : ∃ cells, W.heap[go]? = some (.cells cells T (0, 0))) (j : Nat) (v : Value) : ∃ cells, (W.setCell ⟨go, j, none⟩ v).heap[go]? = some (.cells cells T (0, 0)) := by
 obtain ⟨cells, h⟩ := h
 exact ⟨cells.setIfInBounds j v, by simp [World.setCell, Array.getElem?_modify, h]⟩
theorem tyb_frozen {W : World} {go T : Nat} (h : ∃ cells, W.heap[go]? = some (.cells cells T (0, 0))) (j : Nat) : W.frozen? ⟨go, j, none⟩ = false := by
 obtain ⟨cells, h⟩ := h
 exact blk_frozen h j
set_option maxHeartbeats 8000000 in
set_option maxRecDepth 100000 in
theorem spoil8 (a b c d : Int) (n cap go : Nat) (vs : Nat → Value) (ls : Nat → Nat) (ok : Nat → Prop) (w0 w : World) (hB : Below w0.heap.size w0 w) (hok : ∀ k, ok k → w0.heap.size ≤ k ∧ k ≠ go ∧ k < w.heap.size) (hgo : w0.heap.size ≤ go) (hty : ∃ cells, w.heap[go]? = some (.cells cells 45 (0, 0))) (hc : ∀ j, j < n → w.cell? ⟨go, j, none⟩ = some (vs j)) (hw : ∀ j, j < n → Wb w ok (vs j) (ls j)) (hl : ∀ j, ls j ≤ 2000000) (hn : n ≤ 1000000) : Calls Try.prog 32 #[.agg #[.int .i64 a, .int .i64 b, .int .i64 c, .int .i64 d, .slice (some ⟨go, 0, none⟩) n cap]] w fun e w' => e = .returned (.tuple #[]) ∧ Below w0.heap.size w0 w' ∧ Kept w w' (fun k => ok k ∨ k = go) := by
 have hu36 := Try.underlying36
 have hu23 := Try.underlying23
 have HB := Aside0.mk hB
 have HOK := Aside0.mk hok
 have HGO := Aside0.mk (show w0.heap.size ≤ go ∧ go < w.heap.size from ⟨hgo, by obtain ⟨cells, h⟩ := hty; exact blk_lt h⟩)
 have HT := Aside0.mk hty
 have HC := Aside0.mk hc
 have HW := Aside0.mk hw
 have HL := Aside0.mk hl
 have HN := Aside0.mk hn
 clear hB hok hgo hty hc hw hl hn
 go_enter Try.func32, Try.ntmps32
 have tok1 : True := trivial
 go_wp2_with (first | (have _ := tok1; (with_reducible refine gate_dst (N := 1) rfl ?_); refine box_event rfl (N := 1) rfl (cs := #[.int .i64 a, .int .i64 b, .int .i64 c, .int .i64 d, .slice (some ⟨go, 0, none⟩) n cap]) (t := 36) (by go_simp; try rfl) ?_; intro g1 hg w1 hbox hb; have hs : Below w.heap.size w w1 := below_step Lt8.b hb; have SZ1 := Aside0.mk (show w.heap.size ≤ g1 ∧ g1 < w1.heap.size from ⟨by rw [hg]; exact (below_size Lt8.b), blk_lt hbox⟩); replace HB := hbs HB hs; have q0_ := SZ1.out; clear q0_; have BKg1 := Aside0.mk hbox; have hb0 := Aside0.mk hs; clear hb hbox hg hs; obtain ⟨⟨hcg1_0, hfg1_0⟩, ⟨hcg1_1, hfg1_1⟩, ⟨hcg1_2, hfg1_2⟩, ⟨hcg1_3, hfg1_3⟩, ⟨hcg1_4, hfg1_4⟩⟩ := cells5 BKg1.out; clear tok1))
 (try clear hcg1_0 hfg1_0 hcg1_1 hfg1_1 hcg1_2 hfg1_2 hcg1_3 hfg1_3 hcg1_4 hfg1_4)
 have HG1 := Aside0.mk (show w.heap.size ≤ g1 from (SZ1.out).1)
 have hng1 : go ≠ g1 := by have h1 := HG1.out; have h2 := HGO.out; omega
 have hn1g : g1 ≠ go := hng1.symm
 go_loopg [2] n (fun kq v2 wr => ∃ k : Nat, v2 = .int .i64 (k : Int) ∧ Aside0 (k ≤ n ∧ n - k ≤ kq) ∧ Aside0 (wr.heap[g1]? = some (.cells #[.int .i64 a, .int .i64 b, .int .i64 c, .int .i64 d, .slice (some ⟨go, 0, none⟩) n cap] 36 (0, 0))) ∧ Aside0 (∃ cells, wr.heap[go]? = some (.cells cells 45 (0, 0))) ∧ Aside0 (∀ j, k ≤ j → j < n → wr.cell? ⟨go, j, none⟩ = some (vs j)) ∧ Aside0 (∀ j, k ≤ j → j < n → Wb wr ok (vs j) (ls j)) ∧ Aside0 (Below w0.heap.size w0 wr) ∧ Aside0 (Kept w wr (fun k => ok k ∨ k = go)))
 case atStart => exact ⟨0, rfl, Aside0.mk ⟨by omega, by omega⟩, Aside0.mk (sB BKg1.out), Aside0.mk (by obtain ⟨cells, h⟩ := HT.out; exact ⟨cells, blk_below h hb0.out⟩), Aside0.mk (fun j _ hj => pw_cell_below hb0.out (HC.out j hj)), Aside0.mk (fun j _ hj => (HW.out j hj).below hb0.out), Aside0.mk (sH HB.out), Aside0.mk (Kept.of_below hb0.out _)⟩
 case round =>
  clear BKg1 HB HC HW HT hb0
  obtain ⟨k, rfl, AX, BKg1, HT, HC, HW, HB, HK⟩ := hrel
  by_cases hlt : k < n
  ·
   have hck0 := HC.out k (Nat.le_refl _) hlt
   have hwk0 := HW.out k (Nat.le_refl _) hlt
   obtain ⟨A, c', hv⟩ := hwk0.shape
   have hlk := HL.out k
   rw [hv] at hck0 hwk0
   have HLK := Aside0.mk hlk
   have HV := Aside0.mk hv
   have HLT := Aside0.mk hlt
   obtain ⟨lk, hlk2⟩ : ∃ lk, lk = ls k := ⟨_, rfl⟩
   rw [← hlk2] at hck0 hwk0
   have HLE := Aside0.mk hlk2
   have HCk := Aside0.mk hck0
   have HWk := Aside0.mk hwk0
   have b1 : decide ((k : Int) < (n : Int)) = true := decide_eq_true (by omega)
   have b2 : decide (k < n) = true := decide_eq_true hlt
   have b3 : (k < n) = True := eq_true hlt
   clear hlt hck0 hwk0 hv hlk hlk2
   obtain ⟨-, -, -, -, ⟨hcg1_4, hfg1_4⟩⟩ := cells5 BKg1.out
   go_wp2_with (fail)
   obtain ⟨gko, hgko⟩ : ∃ gko, gko = gk := ⟨_, rfl⟩
   rw [← hgko] at AX
   go_loopg [3] lk (fun kq v3 wr => ∃ q : Nat, v3 = .int .i64 (q : Int) ∧ Aside0 (q ≤ lk ∧ lk - q ≤ kq) ∧ Aside0 (wr.heap[g1]? = some (.cells #[.int .i64 a, .int .i64 b, .int .i64 c, .int .i64 d, .slice (some ⟨go, 0, none⟩) n cap] 36 (0, 0))) ∧ Aside0 (∃ cells, wr.heap[go]? = some (.cells cells 45 (0, 0))) ∧ Aside0 (∀ j, k + 1 ≤ j → j < n → wr.cell? ⟨go, j, none⟩ = some (vs j)) ∧ Aside0 (∀ j, k + 1 ≤ j → j < n → Wb wr ok (vs j) (ls j)) ∧ Aside0 (Below w0.heap.size w0 wr) ∧ Aside0 (Kept w wr (fun k => ok k ∨ k = go)) ∧ Aside0 (wr.cell? ⟨go, k, none⟩ = some (.slice A lk c')) ∧ Aside0 (Wb wr ok (.slice A lk c') lk))
   case atStart => exact ⟨0, rfl, Aside0.mk ⟨by omega, by omega⟩, BKg1, HT, Aside0.mk (fun j hj hjn => HC.out j (by omega) hjn), Aside0.mk (fun j hj hjn => HW.out j (by omega) hjn), HB, HK, HCk, HWk⟩
   case round =>
    have AXo := AX
    clear hcg1_4 hfg1_4 BKg1 HT HC HW HB HK HCk HWk AX
    obtain ⟨q, rfl, AQ, BKg1, HT, HC, HW, HB, HK, HCk, HWk⟩ := hrel
    have hck := HCk.out
    by_cases hq : q < lk
    ·
     obtain ⟨g, rfl⟩ := Wb.some HWk.out (by omega)
     obtain ⟨⟨b_, hcq⟩, hfq, hokg⟩ := Wb.cell HWk.out hq
     have hgo1 : g ≠ go := (HOK.out g hokg).2.1
     have hgb : w0.heap.size ≤ g := (HOK.out g hokg).1
     have hg1 : g ≠ g1 := by have h1 := (HOK.out g hokg).2.2; have h2 := HG1.out; omega
     have HG2 := Aside0.mk hokg
     have HQ := Aside0.mk hq
     have i1 : decide ((q : Int) < (lk : Int)) = true := decide_eq_true (by omega)
     have i2 : decide (q < lk) = true := decide_eq_true hq
     have i3 : (q < lk) = True := eq_true hq
     clear hq hokg
     obtain ⟨-, -, -, -, ⟨hcg1_4, hfg1_4⟩⟩ := cells5 BKg1.out
     go_wp2_with (fail)
     have haq := AQ.out
     have hqq := HQ.out
     have hll := HLE.out
     have hlb := HLK.out
     go_roundg (gk - 1)
     case measure => omega
     case rel =>
      refine ⟨q + 1, by rw [show wrap64 ((q : Int) + 1) = ((q + 1 : Nat) : Int) by unfold wrap64; omega], Aside0.mk ⟨by omega, by omega⟩, Aside0.mk (blk_far BKg1.out (p := ⟨g, q, none⟩) hg1.symm _), Aside0.mk ?_, Aside0.mk (fun j hj hjn => cell_not (HC.out j hj hjn) (.inl hgo1.symm)), Aside0.mk (fun j hj hjn => (HW.out j hj hjn).set g q _), Aside0.mk (below_set HB.out hgb), Aside0.mk (HK.out.setCell (p := ⟨g, q, none⟩) (.inl (.inl HG2.out)) _), Aside0.mk (cell_not HCk.out (.inl hgo1.symm)), Aside0.mk (HWk.out.set g q _)⟩
      obtain ⟨cells, h⟩ := HT.out
      exact ⟨cells, blk_far h (p := ⟨g, q, none⟩) hgo1.symm _⟩
    ·
     have i1 : decide ((q : Int) < (lk : Int)) = false := decide_eq_false (by omega)
     have i2 : decide (q < lk) = false := decide_eq_false hq
     have i3 : (q < lk) = False := eq_false hq
     clear hq
     obtain ⟨-, -, -, -, ⟨hcg1_4, hfg1_4⟩⟩ := cells5 BKg1.out
     go_wp2_with (fail)
     (try clear hcg1_4 hfg1_4)
     have hs : Below wr.heap.size wr (World.drew wr) := below_drew1 (Below.refl _ _)
     have SZ2 := Aside0.mk (show wr.heap.size ≤ (World.drew wr).heap.size from hs.size)
     replace BKg1 := bb BKg1 hs
     replace HCk := Aside0.mk (pw_cell_below hs HCk.out)
     replace HT := Aside0.mk (tyb_below HT.out hs)
     replace HC := Aside0.mk ((fun j h1 h2 => pw_cell_below hs (HC.out j h1 h2)))
     replace HW := Aside0.mk ((fun j h1 h2 => (HW.out j h1 h2).below hs))
     replace HK := Aside0.mk ((HK.out.then_ (Kept.of_below hs _) (fun q_ hq_ => .inl hq_)))
     replace HWk := Aside0.mk (HWk.out.below hs)
     replace HB := Aside0.mk (below_step HB.out hs)
     clear hs
     refine start_ (n := 12) (S := fun w' => w'.cell? ⟨g1, 4, none⟩ = some (.slice (some ⟨go, 0, none⟩) n cap) ∧ w'.cell? ⟨go, k, none⟩ = some (.slice A lk c')) (ds := [11]) #[O,O,O,O,O,O,O,O,O,O,O,O] (by kernel_rfl) rfl rfl ⟨(blk_cell BKg1.out 4).trans rfl, HCk.out⟩ (fun hHeld => ?_)
     generalize World.drew wr = w2 at HB BKg1 HCk HT HC HW HK HWk SZ2 hHeld ⊢
     refine pv 0 28 ?_ #[X,O,O,O,O,O,O,O,O,O,O,O] rfl rfl (by kernel_rfl) (fun _ _ _ h => h) ⟨by rfl, ?_⟩ ?_ ?_ ?_; rotate_left; (intro w'; go_simp; with_reducible rfl); rotate_left; (simp only [sP]; rfl)
     refine pv 2 30 ?_ #[X,O,X,O,O,O,O,O,O,O,O,O] rfl rfl (by kernel_rfl) (fun _ _ _ h => h) ⟨by rfl, ?_⟩ ?_ ?_ ?_; rotate_left; (intro w'; go_simp; with_reducible rfl); rotate_left; (simp only [sP]; rfl)
     refine pv 3 31 ?_ #[X,O,X,X,O,O,O,O,O,O,O,O] rfl rfl (by kernel_rfl) (fun _ _ _ h => h) ⟨by rfl, ?_⟩ ?_ ?_ ?_; rotate_left; (intro w'; go_simp; with_reducible rfl); rotate_left; (simp only [sP]; rfl)
     refine pv 5 33 ?_ #[X,O,X,X,O,X,O,O,O,O,O,O] rfl rfl (by kernel_rfl) (fun _ _ _ h => h) ⟨by rfl, ?_⟩ ?_ ?_ ?_; rotate_left; (intro w'; go_simp; with_reducible rfl); rotate_left; (simp only [sP]; rfl)
     refine tv 1 29 ?_ #[X,X,X,X,O,X,O,O,O,O,O,O] rfl rfl (by kernel_rfl) (fun _ _ _ h => h) ⟨by rfl, ?_⟩ hHeld ?_ ?_ ?_; rotate_left; (rintro w' ⟨s0, s1⟩; go_simp; with_reducible rfl); rotate_left; (simp only [sP]; rfl)
     refine tv 4 32 ?_ #[X,X,X,X,X,X,O,O,O,O,O,O] rfl rfl (by kernel_rfl) (fun _ _ _ h => h) ⟨by rfl, ?_⟩ hHeld ?_ ?_ ?_; rotate_left; (rintro w' ⟨s0, s1⟩; go_simp; with_reducible rfl); rotate_left; (simp only [sP]; rfl)
     refine pv 6 34 ?_ #[X,X,X,X,X,X,X,O,O,O,O,O] rfl rfl (by kernel_rfl) (fun _ _ _ h => h) ⟨by rfl, ?_⟩ ?_ ?_ ?_; rotate_left; (intro w'; go_simp; with_reducible rfl); rotate_left; (simp only [sP]; rfl)
     refine tv 7 35 ?_ #[X,X,X,X,X,X,X,X,O,O,O,O] rfl rfl (by kernel_rfl) (fun _ _ _ h => h) ⟨by rfl, ?_⟩ hHeld ?_ ?_ ?_; rotate_left; (rintro w' ⟨s0, s1⟩; go_simp; with_reducible rfl); rotate_left; (simp only [sP]; rfl)
     refine one_ (i := 8) (N := some 36) #[X,X,X,X,X,X,X,X,X,O,O,O] rfl rfl (by kernel_rfl) (by decide) (fun K hK => ?_)
     refine value_ (w1 := ?_) (v := ?_) (by rfl) rfl ?_ ?_
     rotate_left 2
     ·
      go_simp
      constructor
      ·
       rfl
      ·
       rfl
     have BKg0 := BKg1
     replace BKg1 := Aside0.mk (blk_alloc BKg1.out (.cells #[.int .u8 98] 5))
     have HCk0 := HCk
     replace HCk := Aside0.mk (pw_cell_below (below_alloc (Below.refl _ _) (.cells #[.int .u8 98] 5)) HCk.out)
     refine hK.out _ _ ⟨(blk_cell BKg1.out 4).trans rfl, HCk.out⟩ (fun hHeld => ?_)
     clear hK K
     refine norm_ (a' := ?_) ?_ ?_
     rotate_left
     ·
      show Act.put _ (some 36) _ = _
      simp only [sP]
      rfl
     refine one_ (i := 9) (N := some 37) #[X,X,X,X,X,X,X,X,X,X,O,O] rfl rfl (by kernel_rfl) (by decide) (fun K hK => ?_)
     refine Wb_append_step 98 (by rfl) (.tmp 35) (.tmp 36) 45 rfl Try.underlying45 info5 rfl rfl HWk.out (fun k_ hk_ => (HOK.out k_ hk_).1) HB.out HB.out.size (by have h1 := HLE.out; have h2 := HLK.out; omega) ?_
     intro A2 c2 w5 hb hk hkeep
     have HB5 := Aside0.mk hb
     have HK5 := Aside0.mk hk
     have HE5 := Aside0.mk hkeep
     clear hb hk hkeep
     have hgok : ¬ ok go := fun h_ => (HOK.out go h_).2.1 rfl
     replace HCk := Aside0.mk (cell_kept HCk0.out HK5.out hgok)
     replace BKg1 := Aside0.mk (blk_kept BKg0.out HK5.out (fun h => by have h1 := (HOK.out _ h).2.2; have h2 := HG1.out; omega))
     have hcs := HCk.out
     have HT5 := Aside0.mk (tyb_kept HT.out HK5.out hgok)
     have hfs := tyb_frozen HT5.out k
     refine hK.out _ _ ⟨(blk_cell BKg1.out 4).trans rfl, HCk.out⟩ (fun hHeld => ?_)
     clear hK K
     refine norm_ (a' := ?_) ?_ ?_
     rotate_left
     ·
      show Act.put _ (some 37) _ = _
      simp only [sP]
      rfl
     refine pv 10 38 ?_ #[X,X,X,X,X,X,X,X,X,X,X,O] rfl rfl (by kernel_rfl) (fun _ _ _ h => h) ⟨by rfl, ?_⟩ ?_ ?_ ?_; rotate_left; (intro w'; go_simp; with_reducible rfl); rotate_left; (simp only [sP]; rfl)
     refine last_ (i := 11) (N := none) #[X,X,X,X,X,X,X,X,X,X,X,X] rfl rfl (by kernel_rfl) (by decide) (fun K hK => ?_)
     refine skip_ (w1 := ?_) (by rfl) rfl ?_ ?_
     rotate_left
     ·
      go_simp
      rfl
     refine hK.out _ _ ?_
     clear hK K
     refine done_ (by kernel_rfl) ?_
     obtain ⟨-, -, -, -, ⟨hcg1_4, hfg1_4⟩⟩ := cells5 BKg1.out
     go_wp2_with (fail)
     have hll := HLE.out
     have hlb := HLK.out
     have hax := AXo.out
     have hkn := HLT.out
     have hgok : ¬ ok go := fun h_ => (HOK.out go h_).2.1 rfl
     go_roundg (gko - 1)
     case measure => rw [← hgko]; omega
     case rel =>
      refine ⟨k + 1, by rw [show wrap64 ((k : Int) + 1) = ((k + 1 : Nat) : Int) by unfold wrap64; have := HN.out; omega], Aside0.mk ⟨by omega, by omega⟩, Aside0.mk (blk_far BKg1.out (p := ⟨go, k, none⟩) hn1g _), Aside0.mk (tyb_set HT5.out _ _), Aside0.mk (fun j hj hjn => cell_not (cell_kept (HC.out j hj hjn) HK5.out hgok) (.inr (by omega))), Aside0.mk (fun j hj hjn => (HE5.out _ _ _ (HW.out j hj hjn)).far (fun k_ hk_ => (HOK.out k_ hk_).2.1) _), Aside0.mk (below_set HB5.out HGO.out.1), Aside0.mk ((HK.out.then_ HK5.out (fun q_ hq_ => .inl (.inl hq_))).setCell (p := ⟨go, k, none⟩) (.inl (.inr rfl)) _)⟩
  ·
   have b1 : decide ((k : Int) < (n : Int)) = false := decide_eq_false (by omega)
   have b2 : decide (k < n) = false := decide_eq_false hlt
   have b3 : (k < n) = False := eq_false hlt
   obtain ⟨-, -, -, -, ⟨hcg1_4, hfg1_4⟩⟩ := cells5 BKg1.out
   go_wp2_with (fail)
   first | go_end0 | ((try simp only [Exit.inBlock, Exit.then]); refine bodyPost_ret (results_none rfl _ _ _) rfl ?_)
   exact ⟨rfl, HB.out, HK.out⟩
set_option maxHeartbeats 8000000 in
set_option maxRecDepth 100000 in
theorem spoil8_nil (a b c d : Int) (cap : Nat) (ok : Nat → Prop) (w0 w : World) (hB : Below w0.heap.size w0 w) : Calls Try.prog 32 #[.agg #[.int .i64 a, .int .i64 b, .int .i64 c, .int .i64 d, .slice none 0 cap]] w fun e w' => e = .returned (.tuple #[]) ∧ Below w0.heap.size w0 w' ∧ Kept w w' ok := by
 have hu36 := Try.underlying36
 have hu23 := Try.underlying23
 have HB := Aside0.mk hB
 have HK := Aside0.mk (Kept.refl w ok)
 clear hB
 go_enter Try.func32, Try.ntmps32
 have tok1 : True := trivial
 go_wp2_with (first | (have _ := tok1; (with_reducible refine gate_dst (N := 1) rfl ?_); refine box_event rfl (N := 1) rfl (cs := #[.int .i64 a, .int .i64 b, .int .i64 c, .int .i64 d, .slice none 0 cap]) (t := 36) (by go_simp; try rfl) ?_; intro g1 hg w1 hbox hb; have hs : Below w.heap.size w w1 := below_step Lt8.b hb; have SZ1 := Aside0.mk (show w.heap.size ≤ g1 ∧ g1 < w1.heap.size from ⟨by rw [hg]; exact (below_size Lt8.b), blk_lt hbox⟩); replace HB := hbs HB hs; have q0_ := SZ1.out; clear q0_; have BKg1 := Aside0.mk hbox; have hb0 := Aside0.mk hs; clear hb hbox hg hs; obtain ⟨⟨hcg1_0, hfg1_0⟩, ⟨hcg1_1, hfg1_1⟩, ⟨hcg1_2, hfg1_2⟩, ⟨hcg1_3, hfg1_3⟩, ⟨hcg1_4, hfg1_4⟩⟩ := cells5 BKg1.out; clear tok1))
 go_loopg [2] 0 (fun kq v2 wr => v2 = .int .i64 0 ∧ Aside0 (wr.heap[g1]? = some (.cells #[.int .i64 a, .int .i64 b, .int .i64 c, .int .i64 d, .slice none 0 cap] 36 (0, 0))) ∧ Aside0 (Below w0.heap.size w0 wr) ∧ Aside0 (Kept w wr ok))
 case atStart => exact ⟨rfl, Aside0.mk (sB BKg1.out), Aside0.mk (sH HB.out), Aside0.mk (Kept.of_below hb0.out _)⟩
 case round =>
  clear BKg1 HB HK hb0
  obtain ⟨rfl, BKg1, HB, HK⟩ := hrel
  obtain ⟨-, -, -, -, ⟨hcg1_4, hfg1_4⟩⟩ := cells5 BKg1.out
  go_wp2_with (fail)
  first | go_end0 | ((try simp only [Exit.inBlock, Exit.then]); refine bodyPost_ret (results_none rfl _ _ _) rfl ?_)
  exact ⟨rfl, HB.out, HK.out⟩
end Go.Proofs.Ytemmhgfjfbdggaa.P
namespace Go.Proofs.Ytemmhgfjfbdggaa.P
open Go.RowKit Go.Proofs.YtemmhgfjfbdggaaW.PrintWords Go.Proofs.YtemmhgfjfbdggaaW.PrintLast Go.Proofs.YtemmhgfjfbdggaaW.PrintMore
def kW {α : Type} (d : Kd α) (i : Nat) (len : α → Nat) : Kd α where
 sz := d.sz
 E := []
 K := fun w x cs => d.K w x cs ∧ ∃ v, cs[i]? = some v ∧ Wb w (fun _ => True) v (len x)
 M := fun _ _ _ _ _ => False
 K_len := fun h => d.K_len h.1
 K_one := fun h => d.K_one h.1
 K_below := fun hb h => ⟨d.K_below hb h.1, by obtain ⟨v, h1, h2⟩ := h.2; exact ⟨v, h1, h2.below hb⟩⟩
 K_of_M := fun h => h.elim
 M_mono := fun _ h => h
 M_bound := fun h => h
 M_move := fun _ h => h
 M_lower := fun _ h => h
abbrev kWs : Kd (List Int) := kW (Kd.slice 5 (Kd.int .u8)) 0 List.length
abbrev kWp : Kd S51 := kW k51 3 (fun x => x.f3.length)
section
variable {α : Type} {d : Kd α} {i : Nat} {len : α → Nat} {W w : World} {ok : Nat → Prop} {x : α} {c : List Value} {v : Value} {e base : Nat} {xs : List α}
theorem FK_kW (h : Kd.FK d W ok x c) (hv : c[i]? = some v) (hw : Wb W ok v (len x)) : Kd.FK (kW d i len) W ok x c := fun W' hW => ⟨h W' hW, v, hv, (hw.step hW).mono (fun _ _ => trivial)⟩
theorem FK_of_kW (h : Kd.FK (kW d i len) W ok x c) : Kd.FK d W ok x c := fun W' hW => (h W' hW).1
theorem Wb_of_kW (h : Kd.FK (kW d i len) W ok x c) : ∃ v, c[i]? = some v ∧ Wb W ok v (len x) := by
 obtain ⟨v, h1, h2⟩ := (h W (fun _ _ _ => rfl)).2
 refine ⟨v, h1, ?_⟩
 rcases h2 with h2 | ⟨g, cap, cells, f, r1, _, r3, r4, r5, r6⟩
 ·
  exact .inl h2
 ·
  refine .inr ⟨g, cap, cells, f, r1, ?_, r3, r4, r5, r6⟩
  by_cases hk : ok g
  ·
   exact hk
  ·
   exfalso
   obtain ⟨v', q1, q2⟩ := (h { W with heap := W.heap.setIfInBounds g (.cells #[] 0) } (fun k hk' _ => by
    have : g ≠ k := fun e => hk (e ▸ hk')
    simp [this])).2
   rw [h1] at q1
   injection q1 with q1
   subst q1
   rcases q2 with ⟨q2, _⟩ | ⟨g', cap', cells', f', s1, _, _, _, s5, _⟩
   ·
    rw [r1] at q2; cases q2
   ·
    rw [r1] at s1
    injection s1 with s1 _ _
    injection s1 with s1
    injection s1 with s1
    subst s1
    have hl := blk_lt r5
    simp [hl] at s5
theorem N_of_kW (h : Kd.N (kW d i len) e w base ok v xs) : Kd.N d e w base ok v xs := by
 obtain ⟨h0, rows, hl, hR, hf⟩ := h
 exact ⟨h0, rows, hl, hR, fun j x c hx hc => FK_of_kW (hf j x c hx hc)⟩
end
theorem rdB {l : List (List Int)} (h : ∀ x ∈ l, IsB x ∧ x.length ≤ 1048576) (x : Int) : IsB (rd_L1 l x) ∧ (rd_L1 l x).length ≤ 1048576 := by
 have h2 : rd_L1 l x = l.getD x.toNat [] := rfl
 rw [h2, List.getD_eq_getElem?_getD]
 by_cases hi : x.toNat < l.length
 ·
  rw [List.getElem?_eq_getElem hi]
  exact h _ (List.getElem_mem hi)
 ·
  rw [List.getElem?_eq_none (by omega)]
  exact ⟨fun _ h => (by cases h), by decide⟩
theorem RBytes2 (A : Option Addr) (cc : Nat) (l t : List Int) (w : World) (hC : Kd.C (Kd.int .u8) w A l.length l) (hB : IsB l) (hl : l.length ≤ 1048576) (ht : twoslotref08_Bytes.f l = some t) :
  Calls Try.prog 33 #[.slice A l.length cc] w fun e w' => ∃ v : Value, e = .returned v ∧ Kd.V (Kd.int .u8) 5 w' w.heap.size (fun k_ => w.heap.size ≤ k_) v t ∧ Wb w' (fun k_ => w.heap.size ≤ k_) v t.length ∧ Below w.heap.size w w' := by
 have e : t = l := by
  rw [bytes8_ev hB hl] at ht
  exact (Option.some.inj ht).symm
 subst e
 exact RBytes A cc t w hC hB hl
set_option maxHeartbeats 8000000 in
set_option maxRecDepth 100000 in
theorem Twin_Wb (k : Nat) (a0_0 : Int) (a0_1 : Int) (a0_2 : Int) (a0_3 : Int) (A0_4 : Option Addr) (c0_4 : Nat) (l0_4 : List (List Int)) (r1 : Int) (r2 : Int) (r3 : Int) (r4 : Int) (r5 : List (List Int)) (w : World) (hr0_4 : Kd.C (Kd.slice 5 (Kd.int .u8)) w A0_4 l0_4.length l0_4) (hc0_4 : l0_4.length ≤ c0_4) (hel : ∀ x ∈ l0_4, IsB x ∧ x.length ≤ 1048576) (h : twoslotref08_Twin.f k a0_0 a0_1 a0_2 a0_3 l0_4 = some (r1, r2, r3, r4, r5)) :
  Calls Try.prog 29 #[.agg #[.int .i64 a0_0, .int .i64 a0_1, .int .i64 a0_2, .int .i64 a0_3, .slice A0_4 l0_4.length c0_4]] w fun e w' => ∃ v4_ : Value, e = .returned (.agg #[.int .i64 r1, .int .i64 r2, .int .i64 r3, .int .i64 r4, v4_]) ∧ Kd.N kWs 45 w' w.heap.size (fun k_ => (w.heap.size ≤ k_)) v4_ r5 ∧ Below w.heap.size w w' := by
 have hu36 := Try.underlying36
 have hu23 := Try.underlying23
 have HR0_4 := Aside0.mk hr0_4
 have HC0_4 := Aside0.mk hc0_4
 have HEL := Aside0.mk hel
 clear hr0_4 hc0_4 hel
 have HB := Aside0.mk (Below.refl w.heap.size w)
 have H : (twoslotref08_Twin.l0 k 0 a0_0 a0_1 a0_2 a0_3 l0_4 a0_0 a0_1 a0_2 a0_3 ([] : List (List Int))) = some (r1, r2, r3, r4, r5) := h
 clear h
 have H' := Aside0.mk H
 clear H
 go_enter Try.func29, Try.ntmps29
 go_wp2_with (first | ((with_reducible refine gate_dst (N := 1) rfl ?_); refine box_event rfl (N := 1) rfl (cs := #[.int .i64 a0_0, .int .i64 a0_1, .int .i64 a0_2, .int .i64 a0_3, .slice A0_4 l0_4.length c0_4]) (t := 36) (by go_simp; try rfl) ?_; intro gb120 hg w2 hbox hb; have n0_ := Aside0.mk (below_step (by repeat (first | (with_reducible first | exact HB.out | apply below_alloc | apply pw_below_drewN | apply below_drew1) | exact HB.out)) hb); have n1_ := Aside0.mk (hbox); have n2_ := Aside0.mk ((by rw [hg]; exact (below_size (by repeat (first | (with_reducible first | exact HB.out | apply below_alloc | apply pw_below_drewN | apply below_drew1) | exact HB.out))) : w.heap.size ≤ gb120)); have n3_ := Aside0.mk ((by rw [hg]; exact (below_size (by repeat (first | (with_reducible first | exact HB.out | apply below_alloc | apply pw_below_drewN | apply below_drew1) | exact HB.out))) : w.heap.size ≤ gb120)); clear HB; have HB := n0_; have BK120 := n1_; have GW120 := n2_; have GE120 := n3_; clear n0_ n1_ n2_ n3_; clear hb hbox hg) | ((with_reducible refine gate_dst (N := 2) rfl ?_); refine box_event rfl (N := 2) rfl (cs := #[.int .i64 0, .int .i64 0, .int .i64 0, .int .i64 0, .slice none 0 0]) (t := 36) (by go_simp; try rfl) ?_; intro gb121 hg w3 hbox hb; have n0_ := Aside0.mk (blk_below (g := gb120) (o := .cells #[.int .i64 a0_0, .int .i64 a0_1, .int .i64 a0_2, .int .i64 a0_3, .slice A0_4 l0_4.length c0_4] 36 (0, 0)) (sB BK120.out) hb); have n1_ := Aside0.mk (below_step (by repeat (first | (with_reducible first | exact HB.out | apply below_alloc | apply pw_below_drewN | apply below_drew1 | refine below_set ?_ GE120.out) | exact HB.out)) hb); have n2_ := Aside0.mk (hbox); have n3_ := Aside0.mk ((by rw [hg]; exact (below_size (by repeat (first | (with_reducible first | exact HB.out | apply below_alloc | apply pw_below_drewN | apply below_drew1 | refine below_set ?_ GE120.out) | exact HB.out))) : w.heap.size ≤ gb121)); have n4_ := Aside0.mk ((by rw [hg]; exact (below_size (by repeat (first | (with_reducible first | exact HB.out | apply below_alloc | apply pw_below_drewN | apply below_drew1 | refine below_set ?_ GE120.out) | exact HB.out))) : w.heap.size ≤ gb121)); have n5_ := Aside0.mk ((by rw [hg]; exact Nat.ne_of_lt (blk_lt (g := gb120) (o := .cells #[.int .i64 a0_0, .int .i64 a0_1, .int .i64 a0_2, .int .i64 a0_3, .slice A0_4 l0_4.length c0_4] 36 (0, 0)) (sB BK120.out)) : gb120 ≠ gb121)); have n6_ := Aside0.mk ((by rw [hg]; exact Nat.ne_of_gt (blk_lt (g := gb120) (o := .cells #[.int .i64 a0_0, .int .i64 a0_1, .int .i64 a0_2, .int .i64 a0_3, .slice A0_4 l0_4.length c0_4] 36 (0, 0)) (sB BK120.out)) : gb121 ≠ gb120)); clear BK120; clear HB; have BK120 := n0_; have HB := n1_; have BK121 := n2_; have GW121 := n3_; have GE121 := n4_; have NB120_121 := n5_; have NB121_120 := n6_; clear n0_ n1_ n2_ n3_ n4_ n5_ n6_; clear hb hbox hg; have hnb4 := NB120_121.out; have hnc4 := NB121_120.out; obtain ⟨hcz5_0, hcz5_1, hcz5_2, hcz5_3, hcz5_4, hfz5_0, hfz5_1, hfz5_2, hfz5_3, hfz5_4⟩ := cs5 BK120.out) | ((with_reducible refine gate_dst (N := 3) rfl ?_); refine box_event rfl (N := 3) rfl (cs := #[.int .i64 0, .int .i64 0, .int .i64 0, .int .i64 0, .slice none 0 0]) (t := 36) (by go_simp; try rfl) ?_; intro gb122 hg w6 hbox hb; have n0_ := Aside0.mk (blk_below (g := gb120) (o := .cells #[.int .i64 a0_0, .int .i64 a0_1, .int .i64 a0_2, .int .i64 a0_3, .slice A0_4 l0_4.length c0_4] 36 (0, 0)) (sB BK120.out) hb); have n1_ := Aside0.mk (blk_below (g := gb121) (o := .cells #[.int .i64 0, .int .i64 0, .int .i64 0, .int .i64 0, .slice none 0 0] 36 (0, 0)) (sB BK121.out) hb); have n2_ := Aside0.mk (below_step (by repeat (first | (with_reducible first | exact HB.out | apply below_alloc | apply pw_below_drewN | apply below_drew1 | refine below_set ?_ GE120.out | refine below_set ?_ GE121.out) | exact HB.out)) hb); have n3_ := Aside0.mk (hbox); have n4_ := Aside0.mk ((by rw [hg]; exact (below_size (by repeat (first | (with_reducible first | exact HB.out | apply below_alloc | apply pw_below_drewN | apply below_drew1 | refine below_set ?_ GE120.out | refine below_set ?_ GE121.out) | exact HB.out))) : w.heap.size ≤ gb122)); have n5_ := Aside0.mk ((by rw [hg]; exact (below_size (by repeat (first | (with_reducible first | exact HB.out | apply below_alloc | apply pw_below_drewN | apply below_drew1 | refine below_set ?_ GE120.out | refine below_set ?_ GE121.out) | exact HB.out))) : w.heap.size ≤ gb122)); have n6_ := Aside0.mk ((by rw [hg]; exact Nat.ne_of_lt (blk_lt (g := gb120) (o := .cells #[.int .i64 a0_0, .int .i64 a0_1, .int .i64 a0_2, .int .i64 a0_3, .slice A0_4 l0_4.length c0_4] 36 (0, 0)) (sB BK120.out)) : gb120 ≠ gb122)); have n7_ := Aside0.mk ((by rw [hg]; exact Nat.ne_of_gt (blk_lt (g := gb120) (o := .cells #[.int .i64 a0_0, .int .i64 a0_1, .int .i64 a0_2, .int .i64 a0_3, .slice A0_4 l0_4.length c0_4] 36 (0, 0)) (sB BK120.out)) : gb122 ≠ gb120)); have n8_ := Aside0.mk ((by rw [hg]; exact Nat.ne_of_lt (blk_lt (g := gb121) (o := .cells #[.int .i64 0, .int .i64 0, .int .i64 0, .int .i64 0, .slice none 0 0] 36 (0, 0)) (sB BK121.out)) : gb121 ≠ gb122)); have n9_ := Aside0.mk ((by rw [hg]; exact Nat.ne_of_gt (blk_lt (g := gb121) (o := .cells #[.int .i64 0, .int .i64 0, .int .i64 0, .int .i64 0, .slice none 0 0] 36 (0, 0)) (sB BK121.out)) : gb122 ≠ gb121)); clear BK120; clear BK121; clear HB; have BK120 := n0_; have BK121 := n1_; have HB := n2_; have BK122 := n3_; have GW122 := n4_; have GE122 := n5_; have NB120_122 := n6_; have NB122_120 := n7_; have NB121_122 := n8_; have NB122_121 := n9_; clear n0_ n1_ n2_ n3_ n4_ n5_ n6_ n7_ n8_ n9_; clear hb hbox hg; have hnb7 := NB122_120.out; have hnc7 := NB120_122.out; have hnb8 := NB122_121.out; have hnc8 := NB121_122.out; obtain ⟨hcz9_0, hcz9_1, hcz9_2, hcz9_3, hcz9_4, hfz9_0, hfz9_1, hfz9_2, hfz9_3, hfz9_4⟩ := cs5 BK122.out))
 go_loopg [4] k (fun kq v4 w' => ∃ (x4_1 : Int) (x123004_1 : List (List Int)) (u123004 : Value), v4 = .int .i64 x4_1 ∧ Aside0 (twoslotref08_Twin.l0 kq x4_1 a0_0 a0_1 a0_2 a0_3 l0_4 a0_0 a0_1 a0_2 a0_3 x123004_1 = some (r1, r2, r3, r4, r5)) ∧ Aside0 (kq ≤ k) ∧ Aside0 (Kd.N kWs 45 w' w.heap.size (fun k_ => (w.heap.size ≤ k_) ∧ k_ ≠ gb120 ∧ k_ ≠ gb121 ∧ k_ ≠ gb122) u123004 x123004_1) ∧ Aside0 (w'.heap[gb120]? = some (.cells #[.int .i64 a0_0, .int .i64 a0_1, .int .i64 a0_2, .int .i64 a0_3, (.slice A0_4 l0_4.length c0_4)] 36 (0, 0))) ∧ Aside0 (w'.heap[gb121]? = some (.cells #[.int .i64 0, .int .i64 0, .int .i64 0, .int .i64 0, (.slice none 0 0)] 36 (0, 0))) ∧ Aside0 (w'.heap[gb122]? = some (.cells #[.int .i64 a0_0, .int .i64 a0_1, .int .i64 a0_2, .int .i64 a0_3, u123004] 36 (0, 0))) ∧ Aside0 (Below w.heap.size w w'))
 case atStart => exact ⟨(0), (([] : List (List Int))), (.slice none 0 0), (by first | rfl | (simp; done) | (simp [*]; done)), H', ⟨Nat.le_refl _⟩, ⟨by first | exact Kd.S_nil _ _ _ _ _ | exact Kd.N_nil _ _ _ _ _ | exact Kd.V_nil _ _ _ _ _ | exact Kd.Q_nil _ _ _ _ _ | exact Kd.R_nil _ _ _ _ _⟩, ⟨by (with_reducible repeat (first | refine blk_drewN ?_ _ | refine blk_drew ?_ | refine blk_alloc ?_ _)); refine blk_far ?_ NB120_122.out _; (with_reducible repeat (first | refine blk_drewN ?_ _ | refine blk_drew ?_ | refine blk_alloc ?_ _)); refine blk_far ?_ NB120_122.out _; (with_reducible repeat (first | refine blk_drewN ?_ _ | refine blk_drew ?_ | refine blk_alloc ?_ _)); refine blk_far ?_ NB120_122.out _; (with_reducible repeat (first | refine blk_drewN ?_ _ | refine blk_drew ?_ | refine blk_alloc ?_ _)); refine blk_far ?_ NB120_122.out _; (with_reducible repeat (first | refine blk_drewN ?_ _ | refine blk_drew ?_ | refine blk_alloc ?_ _)); refine blk_far ?_ NB120_122.out _; (with_reducible repeat (first | refine blk_drewN ?_ _ | refine blk_drew ?_ | refine blk_alloc ?_ _)); exact BK120.out⟩, ⟨by (with_reducible repeat (first | refine blk_drewN ?_ _ | refine blk_drew ?_ | refine blk_alloc ?_ _)); refine blk_far ?_ NB121_122.out _; (with_reducible repeat (first | refine blk_drewN ?_ _ | refine blk_drew ?_ | refine blk_alloc ?_ _)); refine blk_far ?_ NB121_122.out _; (with_reducible repeat (first | refine blk_drewN ?_ _ | refine blk_drew ?_ | refine blk_alloc ?_ _)); refine blk_far ?_ NB121_122.out _; (with_reducible repeat (first | refine blk_drewN ?_ _ | refine blk_drew ?_ | refine blk_alloc ?_ _)); refine blk_far ?_ NB121_122.out _; (with_reducible repeat (first | refine blk_drewN ?_ _ | refine blk_drew ?_ | refine blk_alloc ?_ _)); refine blk_far ?_ NB121_122.out _; (with_reducible repeat (first | refine blk_drewN ?_ _ | refine blk_drew ?_ | refine blk_alloc ?_ _)); exact BK121.out⟩, ⟨by (with_reducible repeat (first | refine blk_drewN ?_ _ | refine blk_drew ?_ | refine blk_alloc ?_ _)); refine blk_put (cs := #[.int .i64 a0_0, .int .i64 a0_1, .int .i64 a0_2, .int .i64 a0_3, .slice none 0 0]) ?_ 4 _ rfl; (with_reducible repeat (first | refine blk_drewN ?_ _ | refine blk_drew ?_ | refine blk_alloc ?_ _)); refine blk_put (cs := #[.int .i64 a0_0, .int .i64 a0_1, .int .i64 a0_2, .int .i64 0, .slice none 0 0]) ?_ 3 _ rfl; (with_reducible repeat (first | refine blk_drewN ?_ _ | refine blk_drew ?_ | refine blk_alloc ?_ _)); refine blk_put (cs := #[.int .i64 a0_0, .int .i64 a0_1, .int .i64 0, .int .i64 0, .slice none 0 0]) ?_ 2 _ rfl; (with_reducible repeat (first | refine blk_drewN ?_ _ | refine blk_drew ?_ | refine blk_alloc ?_ _)); refine blk_put (cs := #[.int .i64 a0_0, .int .i64 0, .int .i64 0, .int .i64 0, .slice none 0 0]) ?_ 1 _ rfl; (with_reducible repeat (first | refine blk_drewN ?_ _ | refine blk_drew ?_ | refine blk_alloc ?_ _)); refine blk_put (cs := #[.int .i64 0, .int .i64 0, .int .i64 0, .int .i64 0, .slice none 0 0]) ?_ 0 _ rfl; (with_reducible repeat (first | refine blk_drewN ?_ _ | refine blk_drew ?_ | refine blk_alloc ?_ _)); exact BK122.out⟩, ⟨by repeat (first | (with_reducible first | exact HB.out | apply below_alloc | apply pw_below_drewN | apply below_drew1 | refine below_set ?_ GE120.out | refine below_set ?_ GE121.out | refine below_set ?_ GE122.out) | exact HB.out)⟩⟩
 case round =>
  clear H'
  try clear c2
  try clear p2
  try clear c4
  try clear c7
  try clear c8
  try clear hcz5_0
  try clear hcz5_1
  try clear hcz5_2
  try clear hcz5_3
  try clear hcz5_4
  try clear hcz9_0
  try clear hcz9_1
  try clear hcz9_2
  try clear hcz9_3
  try clear hcz9_4
  try clear hfz5_0
  try clear hfz5_1
  try clear hfz5_2
  try clear hfz5_3
  try clear hfz5_4
  try clear hfz9_0
  try clear hfz9_1
  try clear hfz9_2
  try clear hfz9_3
  try clear hfz9_4
  obtain ⟨x4_1, x123004_1, u123004, rfl, HA, HK1, HO_123004, BK120, BK121, BK122, HB⟩ := hrel
  cases gk with
  | zero => exact absurd HA.out (by simp [twoslotref08_Twin.l0])
  | succ k1 =>
   have H := HA.out
   clear HA
   simp only [twoslotref08_Twin.l0] at H
   by_cases c10 : x4_1 < (l0_4.length : Int)
   ·
    rw [if_pos c10] at H
    have c10b0 : decide (x4_1 < (l0_4.length : Int)) = true := decide_eq_true c10
    clear c10
    by_cases c11 : 0 ≤ x4_1
    ·
     rw [if_pos c11] at H
     have c11b0 : decide (0 ≤ x4_1) = true := decide_eq_true c11
     clear c11
     replace H := Option.bind_eq_some_iff.mp H
     obtain ⟨t124, A120, H⟩ := H
     replace H : (if x123004_1.length < 5864062014805 then (twoslotref08_Twin.l0 k1 (wrap64 (x4_1 + 1)) a0_0 a0_1 a0_2 a0_3 l0_4 a0_0 a0_1 a0_2 a0_3 (x123004_1 ++ [t124])) else (none)) = some (r1, r2, r3, r4, r5) := H
     have A12 := Aside0.mk A120
     clear A120
     by_cases c13 : x123004_1.length < 5864062014805
     ·
      rw [if_pos c13] at H
      have LMc13 := Aside0.mk c13
      clear c13
      obtain ⟨y127, hy127⟩ : ∃ y_ : List (List Int), y_ = (x123004_1 ++ [t124]) := ⟨_, rfl⟩
      replace H : (twoslotref08_Twin.l0 k1 (wrap64 (x4_1 + 1)) a0_0 a0_1 a0_2 a0_3 l0_4 a0_0 a0_1 a0_2 a0_3 y127) = some (r1, r2, r3, r4, r5) := by first | (rw [hy127]; with_reducible exact H) | (have H2_ := (Option.bind_some _ _).symm.trans H; rw [hy127]; with_reducible exact H2_) | (have H2_ := (Option.bind_some _ _).symm.trans H; with_reducible exact H2_) | with_reducible exact H | (rw [hy127]; exact H) | exact H
      have Ny127 := Aside0.mk hy127
      clear hy127
      have H' := Aside0.mk H
      clear H
      have hnb14 := NB120_121.out
      have hnc14 := NB121_120.out
      have hnb15 := NB120_122.out
      have hnc15 := NB122_120.out
      obtain ⟨hcz16_0, hcz16_1, hcz16_2, hcz16_3, hcz16_4, hfz16_0, hfz16_1, hfz16_2, hfz16_3, hfz16_4⟩ := cs5 BK120.out
      try go_wp2
      have n0_ := Aside0.mk (Kd.N_drew HO_123004.out)
      have n1_ := Aside0.mk (blk_drew BK120.out)
      have n2_ := Aside0.mk (blk_drew BK121.out)
      have n3_ := Aside0.mk (blk_drew BK122.out)
      have n4_ := Aside0.mk (below_drew1 HB.out)
      clear HO_123004
      clear BK120
      clear BK121
      clear BK122
      clear HB
      have HO_123004 := n0_
      have BK120 := n1_
      have BK121 := n2_
      have BK122 := n3_
      have HB := n4_
      clear n0_ n1_ n2_ n3_ n4_
      have p123 : 0 ≤ (x4_1 : Int) := of_decide_eq_true (by first | (with_reducible assumption) | assumption)
      have q123 : x4_1 < (l0_4.length : Int) := of_decide_eq_true (by first | (with_reducible assumption) | assumption)
      obtain ⟨ad123, A123_0, c123_0, e123, hx123_0, hl123_0, hi123_0⟩ := at_L1 HR0_4.out x4_1 p123 q123
      have hw123_0 := hx123_0
      cases e123
      replace hx123_0 := (HB.out.cell (World.block_lt_of_cell? w _ hx123_0)).trans hx123_0
      have HR123_0 := Aside0.mk hi123_0
      have HC123_0 := Aside0.mk hl123_0
      clear hi123_0 hl123_0
      replace p123 := eq_true p123
      replace q123 := eq_true q123
      refine start_ (n := 12) (S := fun w' => w'.cell? ⟨gb122, 0, none⟩ = some (.int .i64 a0_0) ∧ w'.cell? ⟨gb122, 1, none⟩ = some (.int .i64 a0_1) ∧ w'.cell? ⟨gb122, 2, none⟩ = some (.int .i64 a0_2) ∧ w'.cell? ⟨gb122, 3, none⟩ = some (.int .i64 a0_3) ∧ w'.cell? ⟨gb122, 4, none⟩ = some (u123004) ∧ w'.cell? ⟨gb120, 0, none⟩ = some (.int .i64 a0_0) ∧ w'.cell? ⟨gb120, 1, none⟩ = some (.int .i64 a0_1) ∧ w'.cell? ⟨gb120, 2, none⟩ = some (.int .i64 a0_2) ∧ w'.cell? ⟨gb120, 3, none⟩ = some (.int .i64 a0_3) ∧ w'.cell? ⟨gb120, 4, none⟩ = some (.slice (some ad123) l0_4.length c0_4) ∧ w'.cell? (ad123.add (x4_1).toNat) = some (.slice A123_0 (rd_L1 l0_4 x4_1).length c123_0)) (ds := [11]) #[O,O,O,O,O,O,O,O,O,O,O,O] (by kernel_rfl) rfl rfl ⟨(blk_cell BK122.out 0).trans rfl, (blk_cell BK122.out 1).trans rfl, (blk_cell BK122.out 2).trans rfl, (blk_cell BK122.out 3).trans rfl, (blk_cell BK122.out 4).trans rfl, (blk_cell BK120.out 0).trans rfl, (blk_cell BK120.out 1).trans rfl, (blk_cell BK120.out 2).trans rfl, (blk_cell BK120.out 3).trans rfl, (blk_cell BK120.out 4).trans rfl, ((HB.out.cell (World.block_lt_of_cell? w _ hw123_0)).trans hw123_0)⟩ (fun hHeld => ?_); refine with_tabW twoslotref08_Twin.tab5 twoslotref08_Twin.bits5 (fun HT_ HW_ => ?_)
      generalize wr.drew = w17 at HO_123004 BK120 BK121 BK122 HB HR123_0 hx123_0 hHeld ⊢
      refine pure_ (i := 0) (N := some 15) (v := ?_) (a' := ?_) #[X,O,O,O,O,O,O,O,O,O,O,O] rfl rfl (any_of HT_.out (by kernel_rfl)) (fun _ _ _ h => h) (Or.inl ⟨by rfl, ?_⟩) ?_ ?_
      rotate_left
      ·
       intro w'
       go_simp
       with_reducible rfl
      rotate_left
      ·
       simp only [sP]
       rfl
      refine pure_ (i := 2) (N := some 17) (v := ?_) (a' := ?_) #[X,O,X,O,O,O,O,O,O,O,O,O] rfl rfl (any_of HT_.out (by kernel_rfl)) (fun _ _ _ h => h) (Or.inl ⟨by rfl, ?_⟩) ?_ ?_
      rotate_left
      ·
       intro w'
       go_simp
       with_reducible rfl
      rotate_left
      ·
       simp only [sP]
       rfl
      refine pure_ (i := 4) (N := some 19) (v := ?_) (a' := ?_) #[X,O,X,O,X,O,O,O,O,O,O,O] rfl rfl (any_of HT_.out (by kernel_rfl)) (fun _ _ _ h => h) (Or.inl ⟨by rfl, ?_⟩) ?_ ?_
      rotate_left
      ·
       intro w'
       go_simp
       with_reducible rfl
      rotate_left
      ·
       simp only [sP]
       rfl
      refine take_ (i := 1) (N := some 16) (v := ?_) (a' := ?_) #[X,X,X,O,X,O,O,O,O,O,O,O] rfl rfl (take_ofW HT_.out HW_.out (by kernel_rfl)) (fun _ _ _ h => h) (Or.inl ⟨by rfl, ?_⟩) hHeld ?_ ?_
      rotate_left
      ·
       rintro w' ⟨s0, s1, s2, s3, s4, s5, s6, s7, s8, s9, s10⟩
       go_simp
       with_reducible rfl
      rotate_left
      ·
       simp only [sP]
       rfl
      refine take_ (i := 3) (N := some 18) (v := ?_) (a' := ?_) #[X,X,X,X,X,O,O,O,O,O,O,O] rfl rfl (take_ofW HT_.out HW_.out (by kernel_rfl)) (fun _ _ _ h => h) (Or.inl ⟨by rfl, ?_⟩) hHeld ?_ ?_
      rotate_left
      ·
       rintro w' ⟨s0, s1, s2, s3, s4, s5, s6, s7, s8, s9, s10⟩
       go_simp
       with_reducible rfl
      rotate_left
      ·
       simp only [sP]
       rfl
      refine pure_ (i := 5) (N := some 20) (v := ?_) (a' := ?_) #[X,X,X,X,X,X,O,O,O,O,O,O] rfl rfl (any_of HT_.out (by kernel_rfl)) (fun _ _ _ h => h) (Or.inl ⟨by rfl, ?_⟩) ?_ ?_
      rotate_left
      ·
       intro w'
       go_simp
       with_reducible rfl
      rotate_left
      ·
       simp only [sP]
       rfl
      refine take_ (i := 6) (N := some 21) (v := ?_) (a' := ?_) #[X,X,X,X,X,X,X,O,O,O,O,O] rfl rfl (take_ofW HT_.out HW_.out (by kernel_rfl)) (fun _ _ _ h => h) (Or.inl ⟨by rfl, ?_⟩) hHeld ?_ ?_
      rotate_left
      ·
       rintro w' ⟨s0, s1, s2, s3, s4, s5, s6, s7, s8, s9, s10⟩
       go_simp
       with_reducible rfl
      rotate_left
      ·
       simp only [sP]
       rfl
      refine one_ (i := 7) (N := some 22) #[X,X,X,X,X,X,X,X,O,O,O,O] rfl rfl (one_of HT_.out (by kernel_rfl)) (by decide) (fun K hK => ?_)
      refine goes_ Try.func33 (by kernel_rfl) rfl #[.slice A123_0 (rd_L1 l0_4 x4_1).length c123_0] (by rfl) rfl rfl (by (try simp only [List.map_toArray, List.map_cons, List.map_nil]); first | done | rfl | (simp only [List.length_drop, List.length_take]; rfl)) ?_
      with_reducible refine (RBytes2 _ _ (rd_L1 l0_4 x4_1) t124 _ ?side1 (rdB HEL.out x4_1).1 (rdB HEL.out x4_1).2 A12.out).mono ?_
      (case side1 => repeat (first | exact (Kd.C_below HR123_0.out HB.out) | (with_reducible refine Kd.C_alloc ?_ _) | (with_reducible refine Kd.C_drewN ?_ _) | (with_reducible refine Kd.C_drew ?_)))
      rintro e w18 ⟨v125, rfl, ho0, hwb0, hb⟩
      refine ⟨_, rfl, ?_⟩
      have n0_ := Aside0.mk (Kd.N_below (by (with_reducible repeat (first | apply Kd.N_alloc | apply Kd.N_drewN | apply Kd.N_drew)); exact HO_123004.out) hb)
      have HWB := Aside0.mk (Wb.mono (ok' := fun k_ => (w.heap.size ≤ k_) ∧ some k_ ≠ (u123004 : Value).ownBlock ∧ k_ ≠ gb120 ∧ k_ ≠ gb121 ∧ k_ ≠ gb122) hwb0 (fun k_ hk_ => ⟨(Nat.le_trans (below_size (by repeat (first | (with_reducible first | exact HB.out | apply below_alloc | apply pw_below_drewN | apply below_drew1 | refine below_set ?_ GE120.out | refine below_set ?_ GE121.out | refine below_set ?_ GE122.out) | exact HB.out))) hk_), (Kd.fresh' (Kd.N_lt (by (with_reducible repeat (first | apply Kd.N_alloc | apply Kd.N_drewN | apply Kd.N_drew)); exact HO_123004.out)) k_ hk_), (Kd.freshB (g := gb120) (o := .cells #[.int .i64 a0_0, .int .i64 a0_1, .int .i64 a0_2, .int .i64 a0_3, .slice (some ad123) l0_4.length c0_4] 36 (0, 0)) (sB BK120.out) k_ hk_), (Kd.freshB (g := gb121) (o := .cells #[.int .i64 0, .int .i64 0, .int .i64 0, .int .i64 0, .slice none 0 0] 36 (0, 0)) (sB BK121.out) k_ hk_), (Kd.freshB (g := gb122) (o := .cells #[.int .i64 a0_0, .int .i64 a0_1, .int .i64 a0_2, .int .i64 a0_3, u123004] 36 (0, 0)) (sB BK122.out) k_ hk_)⟩))
      clear hwb0
      have n1_ := Aside0.mk (Kd.V_lower (Kd.V_mono (ok' := fun k_ => (w.heap.size ≤ k_) ∧ some k_ ≠ (u123004 : Value).ownBlock ∧ k_ ≠ gb120 ∧ k_ ≠ gb121 ∧ k_ ≠ gb122) ho0 (fun k_ hk_ => ⟨(Nat.le_trans (below_size (by repeat (first | (with_reducible first | exact HB.out | apply below_alloc | apply pw_below_drewN | apply below_drew1 | refine below_set ?_ GE120.out | refine below_set ?_ GE121.out | refine below_set ?_ GE122.out) | exact HB.out))) hk_), (Kd.fresh' (Kd.N_lt (by (with_reducible repeat (first | apply Kd.N_alloc | apply Kd.N_drewN | apply Kd.N_drew)); exact HO_123004.out)) k_ hk_), (Kd.freshB (g := gb120) (o := .cells #[.int .i64 a0_0, .int .i64 a0_1, .int .i64 a0_2, .int .i64 a0_3, .slice (some ad123) l0_4.length c0_4] 36 (0, 0)) (sB BK120.out) k_ hk_), (Kd.freshB (g := gb121) (o := .cells #[.int .i64 0, .int .i64 0, .int .i64 0, .int .i64 0, .slice none 0 0] 36 (0, 0)) (sB BK121.out) k_ hk_), (Kd.freshB (g := gb122) (o := .cells #[.int .i64 a0_0, .int .i64 a0_1, .int .i64 a0_2, .int .i64 a0_3, u123004] 36 (0, 0)) (sB BK122.out) k_ hk_)⟩)) (below_size (by repeat (first | (with_reducible first | exact HB.out | apply below_alloc | apply pw_below_drewN | apply below_drew1 | refine below_set ?_ GE120.out | refine below_set ?_ GE121.out | refine below_set ?_ GE122.out) | exact HB.out))))
      have n2_ := Aside0.mk (blk_below (g := gb120) (o := .cells #[.int .i64 a0_0, .int .i64 a0_1, .int .i64 a0_2, .int .i64 a0_3, .slice (some ad123) l0_4.length c0_4] 36 (0, 0)) (sB BK120.out) hb)
      have n3_ := Aside0.mk (blk_below (g := gb121) (o := .cells #[.int .i64 0, .int .i64 0, .int .i64 0, .int .i64 0, .slice none 0 0] 36 (0, 0)) (sB BK121.out) hb)
      have n4_ := Aside0.mk (blk_below (g := gb122) (o := .cells #[.int .i64 a0_0, .int .i64 a0_1, .int .i64 a0_2, .int .i64 a0_3, u123004] 36 (0, 0)) (sB BK122.out) hb)
      have n5_ := Aside0.mk (below_step (by repeat (first | (with_reducible first | exact HB.out | apply below_alloc | apply pw_below_drewN | apply below_drew1 | refine below_set ?_ GE120.out | refine below_set ?_ GE121.out | refine below_set ?_ GE122.out) | exact HB.out)) hb)
      clear HO_123004
      clear BK120
      clear BK121
      clear BK122
      clear HB
      have HO_123004 := n0_
      have HO126 := n1_
      have BK120 := n2_
      have BK121 := n3_
      have BK122 := n4_
      have HB := n5_
      clear n0_ n1_ n2_ n3_ n4_ n5_
      (try clear hb)
      (try clear hb2)
      (try clear hk)
      (try clear hi)
      (try clear ho0)
      obtain ⟨Ao20, co20, eo20⟩ := Kd.V_slice HO126.out
      (first | subst eo20 | (injection eo20 with f1_ f2_ f3_; have f4_ := f1_.symm; have f5_ := f3_.symm; clear f1_ f2_ f3_; subst f4_; subst f5_))
      refine hK.out _ _ ⟨(blk_cell BK122.out 0).trans rfl, (blk_cell BK122.out 1).trans rfl, (blk_cell BK122.out 2).trans rfl, (blk_cell BK122.out 3).trans rfl, (blk_cell BK122.out 4).trans rfl, (blk_cell BK120.out 0).trans rfl, (blk_cell BK120.out 1).trans rfl, (blk_cell BK120.out 2).trans rfl, (blk_cell BK120.out 3).trans rfl, (blk_cell BK120.out 4).trans rfl, ((HB.out.cell (World.block_lt_of_cell? w _ hw123_0)).trans hw123_0)⟩ (fun hHeld => ?_)
      clear hK K
      refine norm_ (a' := ?_) ?_ ?_
      rotate_left
      ·
       show Act.put _ (some 22) _ = _
       simp only [sP]
       rfl
      refine one_ (i := 8) (N := some 23) #[X,X,X,X,X,X,X,X,X,O,O,O] rfl rfl (one_of HT_.out (by kernel_rfl)) (by decide) (fun K hK => ?_)
      refine value_ (w1 := ?_) (v := ?_) (by rfl) rfl ?_ ?_
      rotate_left 2
      ·
       go_simp
       constructor
       ·
        rfl
       ·
        rfl
      refine hK.out _ _ ⟨(blk_cell (blk_alloc BK122.out _) 0).trans rfl, (blk_cell (blk_alloc BK122.out _) 1).trans rfl, (blk_cell (blk_alloc BK122.out _) 2).trans rfl, (blk_cell (blk_alloc BK122.out _) 3).trans rfl, (blk_cell (blk_alloc BK122.out _) 4).trans rfl, (blk_cell (blk_alloc BK120.out _) 0).trans rfl, (blk_cell (blk_alloc BK120.out _) 1).trans rfl, (blk_cell (blk_alloc BK120.out _) 2).trans rfl, (blk_cell (blk_alloc BK120.out _) 3).trans rfl, (blk_cell (blk_alloc BK120.out _) 4).trans rfl, (World.cell?_alloc_lt _ _ _ (World.block_lt_of_cell? _ _ (((HB.out.cell (World.block_lt_of_cell? w _ hw123_0)).trans hw123_0)))).trans (((HB.out.cell (World.block_lt_of_cell? w _ hw123_0)).trans hw123_0))⟩ (fun hHeld => ?_)
      clear hK K
      refine norm_ (a' := ?_) ?_ ?_
      rotate_left
      ·
       show Act.put _ (some 23) _ = _
       simp only [sP]
       rfl
      refine one_ (i := 9) (N := some 24) #[X,X,X,X,X,X,X,X,X,X,O,O] rfl rfl (one_of HT_.out (by kernel_rfl)) (by decide) (fun K hK => ?_)
      refine Kd.N_append_step kWs (w0 := w) w.heap.size (by rfl) (.tmp 16) (.tmp 23) 34 45 (.slice none 0 0) 24 rfl Try.underlying34 info45 rfl (by decide) (by omega) u123004 x123004_1 t124 [.slice Ao20 t124.length co20] (fun k_ => (w.heap.size ≤ k_) ∧ k_ ≠ gb120 ∧ k_ ≠ gb121 ∧ k_ ≠ gb122) (fun k_ => ((fun k_ => (w.heap.size ≤ k_) ∧ k_ ≠ gb120 ∧ k_ ≠ gb121 ∧ k_ ≠ gb122)) k_ ∧ some k_ ≠ (u123004 : Value).ownBlock) rfl rfl ?aP (fun _ hk => hk) ?aF ?aO ?aB ?aS ?aL ?_
      (case aP => exact FK_kW (Kd.FK_slice_mk (Kd.V_reads' (Kd.V_mono (ok' := (fun k_ => ((fun k_ => (w.heap.size ≤ k_) ∧ k_ ≠ gb120 ∧ k_ ≠ gb121 ∧ k_ ≠ gb122)) k_ ∧ some k_ ≠ (u123004 : Value).ownBlock)) (HO126.out) (fun k_ hk => ⟨⟨hk.1, ⟨hk.2.2.1, ⟨hk.2.2.2.1, hk.2.2.2.2⟩⟩⟩, hk.2.1⟩))).2.1 (Kd.V_F (Kd.V_mono (ok' := (fun k_ => ((fun k_ => (w.heap.size ≤ k_) ∧ k_ ≠ gb120 ∧ k_ ≠ gb121 ∧ k_ ≠ gb122)) k_ ∧ some k_ ≠ (u123004 : Value).ownBlock)) (HO126.out) (fun k_ hk => ⟨⟨hk.1, ⟨hk.2.2.1, ⟨hk.2.2.2.1, hk.2.2.2.2⟩⟩⟩, hk.2.1⟩)))) rfl (Wb.mono HWB.out (fun k_ hk => ⟨⟨hk.1, ⟨hk.2.2.1, ⟨hk.2.2.2.1, hk.2.2.2.2⟩⟩⟩, hk.2.1⟩)))
      (case aB => exact (by repeat (first | (with_reducible first | exact HB.out | apply below_alloc | apply pw_below_drewN | apply below_drew1 | refine below_set ?_ GE120.out | refine below_set ?_ GE121.out | refine below_set ?_ GE122.out) | exact HB.out)))
      (case aF => exact (fun k_ hk => ⟨(Nat.le_trans (below_size (by repeat (first | (with_reducible first | exact HB.out | apply below_alloc | apply pw_below_drewN | apply below_drew1 | refine below_set ?_ GE120.out | refine below_set ?_ GE121.out | refine below_set ?_ GE122.out) | exact HB.out))) hk), Kd.freshB (g := gb120) (o := .cells #[.int .i64 a0_0, .int .i64 a0_1, .int .i64 a0_2, .int .i64 a0_3, .slice (some ad123) l0_4.length c0_4] 36 (0, 0)) (sB BK120.out) k_ hk, Kd.freshB (g := gb121) (o := .cells #[.int .i64 0, .int .i64 0, .int .i64 0, .int .i64 0, .slice none 0 0] 36 (0, 0)) (sB BK121.out) k_ hk, Kd.freshB (g := gb122) (o := .cells #[.int .i64 a0_0, .int .i64 a0_1, .int .i64 a0_2, .int .i64 a0_3, u123004] 36 (0, 0)) (sB BK122.out) k_ hk⟩))
      (case aO => exact (by (with_reducible repeat (first | apply Kd.N_alloc | apply Kd.N_drewN | apply Kd.N_drew)); exact HO_123004.out))
      (case aS => exact (below_size (by repeat (first | (with_reducible first | exact HB.out | apply below_alloc | apply pw_below_drewN | apply below_drew1 | refine below_set ?_ GE120.out | refine below_set ?_ GE121.out | refine below_set ?_ GE122.out) | exact HB.out))))
      (case aL => have := LMc13.out; omega)
      intro v128 w19 ho hb hg hat
      rw [← Ny127.out] at ho
      have n0_ := Aside0.mk (blk_grown (g := gb120) (o := .cells #[.int .i64 a0_0, .int .i64 a0_1, .int .i64 a0_2, .int .i64 a0_3, .slice (some ad123) l0_4.length c0_4] 36 (0, 0)) (sB BK120.out) hg (Kd.N_ne HO_123004.out BK120.out (by decide)))
      have n1_ := Aside0.mk (blk_grown (g := gb121) (o := .cells #[.int .i64 0, .int .i64 0, .int .i64 0, .int .i64 0, .slice none 0 0] 36 (0, 0)) (sB BK121.out) hg (Kd.N_ne HO_123004.out BK121.out (by decide)))
      have n2_ := Aside0.mk (blk_grown (g := gb122) (o := .cells #[.int .i64 a0_0, .int .i64 a0_1, .int .i64 a0_2, .int .i64 a0_3, u123004] 36 (0, 0)) (sB BK122.out) hg (Kd.N_ne HO_123004.out BK122.out (by decide)))
      have n3_ := Aside0.mk (Kd.V_afterv (ok := (fun k_ => (w.heap.size ≤ k_) ∧ k_ ≠ gb120 ∧ k_ ≠ gb121 ∧ k_ ≠ gb122)) (by (with_reducible repeat (first | apply Kd.V_alloc | apply Kd.V_drewN | apply Kd.V_drew)); exact Kd.V_mono HO126.out (fun _ hk => ⟨⟨hk.1, ⟨hk.2.2.1, ⟨hk.2.2.2.1, hk.2.2.2.2⟩⟩⟩, hk.2.1⟩)) hg hat)
      have n4_ := Aside0.mk (hb)
      have n5_ := Aside0.mk (ho)
      clear BK120
      clear BK121
      clear BK122
      clear HO126
      clear HB
      clear HO_123004
      have BK120 := n0_
      have BK121 := n1_
      have BK122 := n2_
      have HO126 := n3_
      have HB := n4_
      have HO129 := n5_
      clear n0_ n1_ n2_ n3_ n4_ n5_
      clear ho hb hg hat
      obtain ⟨Ao21, co21, eo21⟩ := Kd.N_slice HO129.out
      (first | subst eo21 | (injection eo21 with f1_ f2_ f3_; have f4_ := f1_.symm; have f5_ := f3_.symm; clear f1_ f2_ f3_; subst f4_; subst f5_))
      refine hK.out _ _ ⟨(blk_cell BK122.out 0).trans rfl, (blk_cell BK122.out 1).trans rfl, (blk_cell BK122.out 2).trans rfl, (blk_cell BK122.out 3).trans rfl, (blk_cell BK122.out 4).trans rfl, (blk_cell BK120.out 0).trans rfl, (blk_cell BK120.out 1).trans rfl, (blk_cell BK120.out 2).trans rfl, (blk_cell BK120.out 3).trans rfl, (blk_cell BK120.out 4).trans rfl, ((HB.out.cell (World.block_lt_of_cell? w _ hw123_0)).trans hw123_0)⟩ (fun hHeld => ?_)
      clear hK K
      refine norm_ (a' := ?_) ?_ ?_
      rotate_left
      ·
       show Act.put _ (some 24) _ = _
       simp only [sP]
       rfl
      refine pure_ (i := 10) (N := some 25) (v := ?_) (a' := ?_) #[X,X,X,X,X,X,X,X,X,X,X,O] rfl rfl (any_of HT_.out (by kernel_rfl)) (fun _ _ _ h => h) (Or.inl ⟨by rfl, ?_⟩) ?_ ?_
      rotate_left
      ·
       intro w'
       go_simp
       with_reducible rfl
      rotate_left
      ·
       simp only [sP]
       rfl
      refine last_ (i := 11) (N := none) #[X,X,X,X,X,X,X,X,X,X,X,X] rfl rfl (one_of HT_.out (by kernel_rfl)) (by decide) (fun K hK => ?_)
      have hs22 : w19.cell? ⟨gb122, 4, none⟩ = some (u123004) := (blk_cell BK122.out 4).trans rfl
      have hfs22 := blk_frozen BK122.out 4
      have hns22_0 := NB120_122.out
      have hns22_1 := NB121_122.out
      have hms22_0 := NB122_120.out
      have hms22_1 := NB122_121.out
      refine skip_ (w1 := ?_) (by rfl) rfl ?_ ?_
      rotate_left
      ·
       go_simp
       rfl
      refine hK.out _ _ ?_
      clear hK K
      refine done_ (done_of HT_.out (by kernel_rfl)) ?_
      try go_wp2
      go_roundg k1
      case measure => have := HK1.out; omega
      case rel => exact ⟨(wrap64 (x4_1 + 1)), (y127), (.slice Ao21 y127.length co21), (by first | rfl | (simp; done) | (simp [*]; done)), H', ⟨by have := HK1.out; omega⟩, ⟨by (with_reducible repeat (first | apply Kd.N_alloc | apply Kd.N_drewN | apply Kd.N_drew)); exact Kd.N_mono (Kd.N_far (p := ⟨gb122, 4, none⟩) (Kd.N_mono HO129.out (fun k_ hk => (⟨hk, hk.2.2.2⟩ : _ ∧ k_ ≠ gb122))) (fun _ hk => hk.2) (.slice Ao21 y127.length co21)) (fun _ hk => ⟨hk.1.1, ⟨hk.1.2.1, ⟨hk.1.2.2.1, hk.1.2.2.2⟩⟩⟩)⟩, ⟨by (with_reducible repeat (first | refine blk_drewN ?_ _ | refine blk_drew ?_ | refine blk_alloc ?_ _)); refine blk_far ?_ NB120_122.out _; (with_reducible repeat (first | refine blk_drewN ?_ _ | refine blk_drew ?_ | refine blk_alloc ?_ _)); exact BK120.out⟩, ⟨by (with_reducible repeat (first | refine blk_drewN ?_ _ | refine blk_drew ?_ | refine blk_alloc ?_ _)); refine blk_far ?_ NB121_122.out _; (with_reducible repeat (first | refine blk_drewN ?_ _ | refine blk_drew ?_ | refine blk_alloc ?_ _)); exact BK121.out⟩, ⟨by (with_reducible repeat (first | refine blk_drewN ?_ _ | refine blk_drew ?_ | refine blk_alloc ?_ _)); refine blk_put (cs := #[.int .i64 a0_0, .int .i64 a0_1, .int .i64 a0_2, .int .i64 a0_3, u123004]) ?_ 4 _ rfl; (with_reducible repeat (first | refine blk_drewN ?_ _ | refine blk_drew ?_ | refine blk_alloc ?_ _)); exact BK122.out⟩, ⟨by repeat (first | (with_reducible first | exact HB.out | apply below_alloc | apply pw_below_drewN | apply below_drew1 | refine below_set ?_ GE120.out | refine below_set ?_ GE121.out | refine below_set ?_ GE122.out) | exact HB.out)⟩⟩
     ·
      rw [if_neg c13] at H
      exact absurd H (by simp)
    ·
     rw [if_neg c11] at H
     exact absurd H (by simp)
   ·
    rw [if_neg c10] at H
    have c10b0 : decide (x4_1 < (l0_4.length : Int)) = false := decide_eq_false c10
    clear c10
    simp only [Option.some.injEq, Prod.mk.injEq] at H
    obtain ⟨rfl, rfl, rfl, rfl, rfl⟩ := H
    have hnb23 := NB120_121.out
    have hnc23 := NB121_120.out
    have hnb24 := NB120_122.out
    have hnc24 := NB122_120.out
    obtain ⟨hcz25_0, hcz25_1, hcz25_2, hcz25_3, hcz25_4, hfz25_0, hfz25_1, hfz25_2, hfz25_3, hfz25_4⟩ := cs5 BK120.out
    have hnb26 := NB122_121.out
    have hnc26 := NB121_122.out
    obtain ⟨hcz27_0, hcz27_1, hcz27_2, hcz27_3, hcz27_4, hfz27_0, hfz27_1, hfz27_2, hfz27_3, hfz27_4⟩ := cs5 BK122.out
    obtain ⟨hcz28_0, hcz28_1, hcz28_2, hcz28_3, hcz28_4, hfz28_0, hfz28_1, hfz28_2, hfz28_3, hfz28_4⟩ := cs5 BK121.out
    obtain ⟨Ao29, co29, eo29⟩ := Kd.N_slice HO_123004.out
    subst eo29
    go_wp2
    refine bodyPost_ret (results_cell_row rfl _ _ gb121 36 #[.int .i64 a0_0, .int .i64 a0_1, .int .i64 a0_2, .int .i64 a0_3, .slice Ao29 x123004_1.length co29] (0, 0) _ rfl (by (with_reducible repeat (first | refine blk_drewN ?_ _ | refine blk_drew ?_ | refine blk_alloc ?_ _)); refine blk_put (cs := #[.int .i64 a0_0, .int .i64 a0_1, .int .i64 a0_2, .int .i64 a0_3, .slice none 0 0]) ?_ 4 _ rfl; (with_reducible repeat (first | refine blk_drewN ?_ _ | refine blk_drew ?_ | refine blk_alloc ?_ _)); refine blk_put (cs := #[.int .i64 a0_0, .int .i64 a0_1, .int .i64 a0_2, .int .i64 0, .slice none 0 0]) ?_ 3 _ rfl; (with_reducible repeat (first | refine blk_drewN ?_ _ | refine blk_drew ?_ | refine blk_alloc ?_ _)); refine blk_put (cs := #[.int .i64 a0_0, .int .i64 a0_1, .int .i64 0, .int .i64 0, .slice none 0 0]) ?_ 2 _ rfl; (with_reducible repeat (first | refine blk_drewN ?_ _ | refine blk_drew ?_ | refine blk_alloc ?_ _)); refine blk_put (cs := #[.int .i64 a0_0, .int .i64 0, .int .i64 0, .int .i64 0, .slice none 0 0]) ?_ 1 _ rfl; (with_reducible repeat (first | refine blk_drewN ?_ _ | refine blk_drew ?_ | refine blk_alloc ?_ _)); refine blk_put (cs := #[.int .i64 0, .int .i64 0, .int .i64 0, .int .i64 0, .slice none 0 0]) ?_ 0 _ rfl; (with_reducible repeat (first | refine blk_drewN ?_ _ | refine blk_drew ?_ | refine blk_alloc ?_ _)); exact BK121.out) Try.underlying36 rfl (by kernel_rfl)) rfl ?_
    exact ⟨_, by first | rfl | (simp [errW_none, errW_some] <;> rfl) | (simp [*, errW_none, errW_some] <;> rfl), by (with_reducible repeat (first | apply Kd.N_alloc | apply Kd.N_drewN | apply Kd.N_drew)); exact Kd.N_mono (Kd.N_far (p := ⟨gb121, 4, none⟩) (Kd.N_far (p := ⟨gb121, 3, none⟩) (Kd.N_far (p := ⟨gb121, 2, none⟩) (Kd.N_far (p := ⟨gb121, 1, none⟩) (Kd.N_far (p := ⟨gb121, 0, none⟩) (Kd.N_mono HO_123004.out (fun k_ hk => (⟨hk, hk.2.2.1⟩ : _ ∧ k_ ≠ gb121))) (fun _ hk => hk.2) (.int .i64 a0_0)) (fun _ hk => hk.2) (.int .i64 a0_1)) (fun _ hk => hk.2) (.int .i64 a0_2)) (fun _ hk => hk.2) (.int .i64 a0_3)) (fun _ hk => hk.2) (.slice Ao29 x123004_1.length co29)) (fun _ hk => hk.1.1), by repeat (first | (with_reducible first | exact HB.out | apply below_alloc | apply pw_below_drewN | apply below_drew1 | refine below_set ?_ GE120.out | refine below_set ?_ GE121.out | refine below_set ?_ GE122.out) | exact HB.out)⟩

-- NOT PRINTED: function 13 (twoslotref08_Of)

end Go.Proofs.Ytemmhgfjfbdggaa.P
namespace Go.Proofs.Ytemmhgfjfbdggaa.P
open Go.RowKit Go.Proofs.YtemmhgfjfbdggaaW.PrintWords Go.Proofs.YtemmhgfjfbdggaaW.PrintLast Go.Proofs.YtemmhgfjfbdggaaW.PrintMore
attribute [local go_sem] max2_int min2_int max_two min_two max_three min_three max_four min_four
set_option linter.unusedVariables false
set_option linter.unusedSimpArgs false
theorem raw_cells {w : World} {base e : Nat} {ok : Nat → Prop} {v : Value} {rows : List (List Value)} (h : (Kd.raw 1).R e w base ok v rows) :
  (v = .slice none 0 0 ∧ rows.length = 0) ∨ ∃ go cap, v = .slice (some ⟨go, 0, none⟩) rows.length cap ∧ base ≤ go ∧ go < w.heap.size ∧ (∃ cells, w.heap[go]? = some (.cells cells e (0, 0))) ∧ ∀ (j : Nat) (c : List Value), rows[j]? = some c → ∀ u, c[0]? = some u → w.cell? ⟨go, j, none⟩ = some u := by
 obtain ⟨inner, ho⟩ := Kd.R_own h
 rcases ho.2 with ⟨rfl, h0⟩ | ⟨g, cap, cur, rfl, hg, hh, _⟩
 ·
  exact .inl ⟨rfl, h0⟩
 ·
  refine .inr ⟨g, cap, rfl, hg, blk_lt hh, ⟨cur, hh⟩, fun j c hc u hu => ?_⟩
  have hj := (List.getElem?_eq_some_iff.1 hc).1
  obtain ⟨c', hcl, hM, hcc, _⟩ := Kd.R_elem h [] (j : Int) (by omega) (by omega)
  have h1 := hM.1
  rw [Int.toNat_natCast, List.getD_eq_getElem?_getD, hc] at h1
  have h2 : c' = c := h1
  subst h2
  have h3 := hcc 0 u hu
  rw [Int.toNat_natCast] at h3
  have e1 : j * (Kd.raw 1).sz + 0 = j := Nat.mul_one j
  rw [e1] at h3
  exact h3
theorem R_kW {w : World} {base e : Nat} {ok : Nat → Prop} {v : Value} {xs : List (List Int)} (h : (Kd.slice 5 (Kd.int .u8)).R e w base ok v xs) : Kd.N kWs e w base ok v xs := by
 obtain ⟨h0, inner, ho, hr⟩ := h
 refine ⟨h0, Kd.chunks 1 xs.length inner, Kd.chunks_length _ _ _, ⟨fun k hk => hk.symm, inner, by rw [Kd.chunks_length]; exact ho, Kd.reps_raw hr (fun x c hp => ⟨(Kd.slice 5 (Kd.int .u8)).K_len ((Kd.slice 5 (Kd.int .u8)).K_of_M hp), (Kd.slice 5 (Kd.int .u8)).K_one ((Kd.slice 5 (Kd.int .u8)).K_of_M hp)⟩)⟩, fun j x c hx hc => ?_⟩
 rw [Kd.chunks_get hc]
 have hM := hr.2 j x hx
 obtain ⟨u, hu, hR⟩ := hM
 refine FK_kW (Kd.FK_of_M (hr.2 j x hx)) (v := u) ?_ (Wb.of_R hR)
 have hu' : List.take 1 (List.drop (j * 1) inner) = [u] := hu
 rw [hu']
 rfl
theorem spoil_N (a b c d : Int) (v : Value) (xs : List (List Int)) (ok : Nat → Prop) (w0 w : World) (hB : Below w0.heap.size w0 w) (hN : Kd.N kWs 45 w w0.heap.size ok v xs) (hok : ∀ k, ok k → w0.heap.size ≤ k) (hl : ∀ x ∈ xs, x.length ≤ 2000000) (hn : xs.length ≤ 1000000) :
  Calls Try.prog 32 #[.agg #[.int .i64 a, .int .i64 b, .int .i64 c, .int .i64 d, v]] w fun e w' => e = .returned (.tuple #[]) ∧ Below w0.heap.size w0 w' ∧ Kept w w' ok := by
 obtain ⟨h0, rows, hlr, hR, hf⟩ := Kd.N_bound hN
 rcases raw_cells hR with ⟨rfl, _⟩ | ⟨go, cap, rfl, hb, hlt, hty, hcell⟩
 ·
  exact spoil8_nil a b c d 0 ok w0 w hB
 ·
  have hown : (Value.slice (some ⟨go, 0, none⟩) rows.length cap).ownBlock = some go := by simp [Value.ownBlock]
  rw [hlr]
  rw [hlr] at hown
  have hfe : ∀ j, j < xs.length → ∃ u, w.cell? ⟨go, j, none⟩ = some u ∧ Wb w (fun k => (ok k ∧ k < w.heap.size) ∧ k ≠ go) u (xs.getD j []).length := by
   intro j hj
   obtain ⟨u, h1, h2⟩ := Wb_of_kW (hf j xs[j] rows[j] (List.getElem?_eq_getElem hj) (List.getElem?_eq_getElem (by omega)))
   refine ⟨u, hcell j _ (List.getElem?_eq_getElem (by omega)) u h1, ?_⟩
   rw [List.getD_eq_getElem?_getD, List.getElem?_eq_getElem hj]
   exact h2.mono (fun k hk => ⟨hk.1, fun e => hk.2 (by rw [hlr, hown, e])⟩)
  have hch : ∃ vs : Nat → Value, ∀ j, j < xs.length → w.cell? ⟨go, j, none⟩ = some (vs j) ∧ Wb w (fun k => (ok k ∧ k < w.heap.size) ∧ k ≠ go) (vs j) (xs.getD j []).length := by
   refine ⟨fun j => if h : j < xs.length then Classical.choose (hfe j h) else .slice none 0 0, fun j hj => ?_⟩
   simp only [dif_pos hj]
   exact Classical.choose_spec (hfe j hj)
  obtain ⟨vs, hvs⟩ := hch
  refine (spoil8 a b c d xs.length cap go vs (fun j => (xs.getD j []).length) (fun k => (ok k ∧ k < w.heap.size) ∧ k ≠ go) w0 w hB (fun k hk => ⟨hok k hk.1.1, hk.2, hk.1.2⟩) hb hty (fun j hj => (hvs j hj).1) (fun j hj => (hvs j hj).2) (fun j => ?_) hn).mono ?_
  ·
   rw [List.getD_eq_getElem?_getD]
   by_cases hj : j < xs.length
   ·
    rw [List.getElem?_eq_getElem hj]
    exact hl _ (List.getElem_mem hj)
   ·
    rw [List.getElem?_eq_none (by omega)]
    exact Nat.zero_le _
  ·
   rintro e w' ⟨rfl, h2, h3⟩
   refine ⟨rfl, h2, h3.1, fun k hk hno => h3.2 k hk (fun h => hno ?_)⟩
   rcases h with h | h
   ·
    exact h.1.1
   ·
    subst h
    exact (h0 k (by rw [hlr]; exact hown)).1
end Go.Proofs.Ytemmhgfjfbdggaa.P
