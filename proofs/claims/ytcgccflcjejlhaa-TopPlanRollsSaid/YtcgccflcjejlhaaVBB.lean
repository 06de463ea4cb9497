/- Part of the proof: what the claim leans on. -/
import Derived.Deep.Upon
import Derived.Test.YtcgccflcjejlhaaVBA
import Derived.Test.YtcgccflcjejlhaaVAI
set_option maxHeartbeats 400000
set_option maxRecDepth 100000
set_option linter.unusedSimpArgs false
set_option linter.unusedVariables false
namespace Go.Proofs.Ytcgccflcjejlhaa
open Go.RowKit
def stS (tb : Int) (pv : Nat → Nat → Int) (i : Nat) : Int × Int := (tb % 50 + 1 + 10 * pv i 0, tb % 50 + 1 + 10 * pv i 0 + pv i 1 % 40)
theorem stS_in {tb : Int} {pv : Nat → Nat → Int} (ht : 0 ≤ tb ∧ tb ≤ 255) (hp : ∀ i j, 0 ≤ pv i j ∧ pv i j ≤ 255) (i : Nat) : RoIn (tb % 50) (stS tb pv i) := by
  have h0 := hp i 0
  have h1 := hp i 1
  refine ⟨?_⟩
  show tb % 50 + 1 ≤ tb % 50 + 1 + 10 * pv i 0 ∧ tb % 50 + 1 + 10 * pv i 0 ≤ tb % 50 + 1 + 10 * pv i 0 + pv i 1 % 40 ∧ tb % 50 + 1 + 10 * pv i 0 + pv i 1 % 40 ≤ 10000
  omega
def rdC (lg : Nat → Int) (i : Nat) : List Value := [.int .i64 (lg i), .bool true]
theorem infoRd : (Try.prog.info? 76).map (fun i => (i.zero, i.size, i.bytes)) = some (some (.agg #[.int .i64 0, .bool false]), 2, 16) := by kernel_rfl
theorem clone0_run (sl ty T : TypeId) {z by_ : Nat} {zero : Value} (hu : Try.prog.underlying sl = some (.slice T)) (hi : (Try.prog.info? T).map (fun i => (i.zero, i.size, i.bytes)) = some (some zero, z, by_)) (W : World) (g c : Nat) (a : Option Addr) :
    (Builtin.append_ #[sl, sl] ty #[.slice (some ⟨g, 0, none⟩) 0 0, .slice a 0 c]).run Try.prog W = .ok (.slice (some ⟨g, 0, none⟩) 0 0) W := by
  obtain ⟨i0, hi, hz0', hz1, hz2⟩ := info_parts hi
  cases a with
  | none => exact run_append_nothing W sl sl ty T i0 hu hi _ 0 0 (Nat.le_refl _) _ (Src.ofNil W hu c)
  | some a => exact run_append_nothing W sl sl ty T i0 hu hi _ 0 0 (Nat.le_refl _) _ (Src.ofSlice W hu a 0 c [] (by simp) (fun j u h => by simp at h) (fun u h => by simp at h))
def SpLB (B : Nat) (W : World) (a : Option Addr) (n : Nat) (ss : Nat → Int × Int) : Prop := n = 0 ∨ ∃ b o, a = some ⟨b, o, none⟩ ∧ B ≤ b ∧ SpR W b o n ss
theorem SpLB.spl {B n : Nat} {ss : Nat → Int × Int} {a : Option Addr} {W : World} (h : SpLB B W a n ss) : SpL W a n ss := h.imp id fun ⟨b, o, e, _, h⟩ => ⟨b, o, e, h⟩
theorem SpLB.below {B n : Nat} {ss : Nat → Int × Int} {a : Option Addr} {W W' : World} (h : SpLB B W a n ss) (hb : Below W.heap.size W W') : SpLB B W' a n ss := h.imp id fun ⟨b, o, e, h1, h⟩ => ⟨b, o, e, h1, h.below hb⟩
theorem SpR.otherB {b g o n : Nat} {ss : Nat → Int × Int} {W W' : World} (h : SpR W g o n ss) (hot : ∀ k x, k ≠ b → W.heap[k]? = some x → W'.heap[k]? = some x) (hne : g ≠ b) (hz : W.heap.size ≤ W'.heap.size) : SpR W' g o n ss := by
  have hx : W.heap[g]? = some (W.heap[g]'h.1) := Array.getElem?_eq_getElem h.1
  have hc : ∀ q, W'.cell? ⟨g, q, none⟩ = W.cell? ⟨g, q, none⟩ := fun q => World.cell?_of_block (w := W) (w' := W') (a := ⟨g, q, none⟩) (by show W'.heap[g]? = W.heap[g]?; rw [hot g _ hne hx, hx])
  exact ⟨Nat.lt_of_lt_of_le h.1 hz, fun i hi => ⟨(hc _).trans (h.2 i hi).1, (hc _).trans (h.2 i hi).2⟩⟩
theorem SpLB.other {B b n : Nat} {ss : Nat → Int × Int} {a : Option Addr} {W W' : World} (h : SpLB B W a n ss) (hot : ∀ k x, k ≠ b → W.heap[k]? = some x → W'.heap[k]? = some x) (hb : b < B) (hz : W.heap.size ≤ W'.heap.size) : SpLB B W' a n ss := h.imp id fun ⟨g, o, e, h1, h⟩ => ⟨g, o, e, h1, h.otherB hot (by omega) hz⟩
def IsSpV (B n : Nat) (ss : Nat → Int × Int) (v : Value) (W : World) : Prop := ∃ a c, v = .slice a n c ∧ SpLB B W a n ss
theorem IsSpV.below {B n : Nat} {ss : Nat → Int × Int} {v : Value} {W W' : World} (h : IsSpV B n ss v W) (hb : Below W.heap.size W W') : IsSpV B n ss v W' := by
  obtain ⟨a, c, e, h⟩ := h; exact ⟨a, c, e, h.below hb⟩
theorem SpR.cellsC {W : World} {b o n : Nat} {ss : Nat → Int × Int} (h : SpR W b o n ss) : ∀ j u, (rowC (spC ss) n)[j]? = some u → W.cell? ⟨b, o + j, none⟩ = some u := by
  intro j u hj
  have hlt : j < n * 2 := by
    rcases Nat.lt_or_ge j (n * 2) with h' | h'
    · exact h'
    · rw [List.getElem?_eq_none (by rw [rowC_len (z := 2) (fun _ => rfl)]; exact h')] at hj; cases hj
  obtain ⟨i, r, hi, hr, rfl⟩ : ∃ i r, i < n ∧ r < 2 ∧ j = i * 2 + r := ⟨j / 2, j % 2, by omega, by omega, by omega⟩
  have e := rowC_at (f := spC ss) (z := 2) (fun _ => rfl) (j := r) hr n i hi
  rw [e] at hj
  obtain ⟨k1, k2⟩ := h.2 i hi
  match r, hr with
  | 0, _ => cases hj; exact k1
  | 1, _ => cases hj; rw [← Nat.add_assoc]; exact k2
theorem cloneSpV (ty : TypeId) {B : Nat} {W : World} {a : Option Addr} {n c g : Nat} {ss : Nat → Int × Int} (h : SpL W a n ss) (hn : n ≤ 1000) (hB : B ≤ W.heap.size) :
    ∃ v' W', (Builtin.append_ #[45, 45] ty #[.slice (some ⟨g, 0, none⟩) 0 0, .slice a n c]).run Try.prog W = .ok v' W' ∧ Below W.heap.size W W' ∧ IsSpV B n ss v' W' := by
  rcases Nat.eq_zero_or_pos n with rfl | h0
  · exact ⟨_, W, clone0_run 45 ty 43 (by kernel_rfl) infoSp W g c a, Below.refl _ _, _, _, rfl, .inl rfl⟩
  · obtain ⟨b, o, rfl, hR⟩ := h.at h0
    obtain ⟨v, W', hr, hb', g', c', rfl, ho⟩ := cloneR_run 45 ty 43 2 16 (.agg #[.int .i64 0, .int .i64 0]) (by kernel_rfl) infoSp rfl W g b o n c (rowC (spC ss) n) (rowC_len (z := 2) (fun _ => rfl) n) h0 hR.cellsC (by omega)
    refine ⟨_, W', hr, hb', _, c', rfl, .inr ⟨g', 0, rfl, Nat.le_trans hB ho.1, ho.2.1, fun i hi => ⟨?_, ?_⟩⟩⟩
    · have e := ho.cell (i * 2 + 0) (rowC_at (f := spC ss) (z := 2) (fun _ => rfl) (j := 0) (by decide) n i hi)
      rw [Nat.zero_add]; exact e
    · have e := ho.cell (i * 2 + 1) (rowC_at (f := spC ss) (z := 2) (fun _ => rfl) (j := 1) (by decide) n i hi)
      rw [Nat.zero_add]; exact e
def RdLB (B : Nat) (W : World) (a : Option Addr) (n : Nat) (lg : Nat → Int) : Prop := n = 0 ∨ ∃ b o, a = some ⟨b, o, none⟩ ∧ B ≤ b ∧ RdR W b o n lg
theorem RdLB.spl {B n : Nat} {lg : Nat → Int} {a : Option Addr} {W : World} (h : RdLB B W a n lg) : RdL W a n lg := h.imp id fun ⟨b, o, e, _, h⟩ => ⟨b, o, e, h⟩
theorem RdLB.below {B n : Nat} {lg : Nat → Int} {a : Option Addr} {W W' : World} (h : RdLB B W a n lg) (hb : Below W.heap.size W W') : RdLB B W' a n lg := h.imp id fun ⟨b, o, e, h1, h⟩ => ⟨b, o, e, h1, h.below hb⟩
def IsRdV (B n : Nat) (lg : Nat → Int) (v : Value) (W : World) : Prop := ∃ a c, v = .slice a n c ∧ RdLB B W a n lg
theorem IsRdV.below {B n : Nat} {lg : Nat → Int} {v : Value} {W W' : World} (h : IsRdV B n lg v W) (hb : Below W.heap.size W W') : IsRdV B n lg v W' := by
  obtain ⟨a, c, e, h⟩ := h; exact ⟨a, c, e, h.below hb⟩
theorem RdR.cellsC {W : World} {b o n : Nat} {lg : Nat → Int} (h : RdR W b o n lg) : ∀ j u, (rowC (rdC lg) n)[j]? = some u → W.cell? ⟨b, o + j, none⟩ = some u := by
  intro j u hj
  have hlt : j < n * 2 := by
    rcases Nat.lt_or_ge j (n * 2) with h' | h'
    · exact h'
    · rw [List.getElem?_eq_none (by rw [rowC_len (z := 2) (fun _ => rfl)]; exact h')] at hj; cases hj
  obtain ⟨i, r, hi, hr, rfl⟩ : ∃ i r, i < n ∧ r < 2 ∧ j = i * 2 + r := ⟨j / 2, j % 2, by omega, by omega, by omega⟩
  have e := rowC_at (f := rdC lg) (z := 2) (fun _ => rfl) (j := r) hr n i hi
  rw [e] at hj
  obtain ⟨k1, k2⟩ := h.2 i hi
  match r, hr with
  | 0, _ => cases hj; exact k1
  | 1, _ => cases hj; rw [← Nat.add_assoc]; exact k2
theorem cloneRdV (ty : TypeId) {B : Nat} {W : World} {a : Option Addr} {n c g : Nat} {lg : Nat → Int} (h : RdL W a n lg) (hn : n ≤ 1000) (hB : B ≤ W.heap.size) :
    ∃ v' W', (Builtin.append_ #[71, 71] ty #[.slice (some ⟨g, 0, none⟩) 0 0, .slice a n c]).run Try.prog W = .ok v' W' ∧ Below W.heap.size W W' ∧ IsRdV B n lg v' W' := by
  rcases Nat.eq_zero_or_pos n with rfl | h0
  · exact ⟨_, W, clone0_run 71 ty 76 (by kernel_rfl) infoRd W g c a, Below.refl _ _, _, _, rfl, .inl rfl⟩
  · obtain ⟨b, o, rfl, hR⟩ := h.at h0
    obtain ⟨v, W', hr, hb', g', c', rfl, ho⟩ := cloneR_run 71 ty 76 2 16 (.agg #[.int .i64 0, .bool false]) (by kernel_rfl) infoRd rfl W g b o n c (rowC (rdC lg) n) (rowC_len (z := 2) (fun _ => rfl) n) h0 hR.cellsC (by omega)
    refine ⟨_, W', hr, hb', _, c', rfl, .inr ⟨g', 0, rfl, Nat.le_trans hB ho.1, ho.2.1, fun i hi => ⟨?_, ?_⟩⟩⟩
    · have e := ho.cell (i * 2 + 0) (rowC_at (f := rdC lg) (z := 2) (fun _ => rfl) (j := 0) (by decide) n i hi)
      rw [Nat.zero_add]; exact e
    · have e := ho.cell (i * 2 + 1) (rowC_at (f := rdC lg) (z := 2) (fun _ => rfl) (j := 1) (by decide) n i hi)
      rw [Nat.zero_add]; exact e
def IsRd (n : Nat) (lg : Nat → Int) (v : Value) (W : World) : Prop := ∃ a c, v = .slice a n c ∧ RdL W a n lg
theorem IsRd.below {n : Nat} {lg : Nat → Int} {v : Value} {W W' : World} (h : IsRd n lg v W) (hb : Below W.heap.size W W') : IsRd n lg v W' := by
  obtain ⟨a, c, e, h⟩ := h; exact ⟨a, c, e, h.below hb⟩
def IsStB (B : Nat) (nu de tl : Int) (k : Nat) (ss : Nat → Int × Int) (v : Value) (W : World) : Prop := ∃ a c, v = .agg #[.int .i64 nu, .int .i64 de, .int .i64 tl, .slice a k c] ∧ SpLB B W a k ss
theorem IsStB.below {B : Nat} {nu de tl : Int} {k : Nat} {ss : Nat → Int × Int} {v : Value} {W W' : World} (h : IsStB B nu de tl k ss v W) (hb : Below W.heap.size W W') : IsStB B nu de tl k ss v W' := by
  obtain ⟨a, c, e, h⟩ := h; exact ⟨a, c, e, h.below hb⟩
theorem arm_rolls (nu de tl : Int) (ss : Nat → Int × Int) (ra : Option Addr) (n c : Nat) (w : World) (hO : SpL w ra n ss) (hn : n ≤ 1000) :
  Calls Try.prog 18 #[.agg #[.int .i64 nu, .int .i64 de, .int .i64 tl, .slice ra n c]] w (fun e w' => ∃ v, e = .returned v ∧ IsStd nu de tl n ss v w' ∧ Below w.heap.size w w') := by
 refine calls_fr Try.func18 Try.ntmps18 rfl rfl fun g hg => ?_
 have k0 : g 0 = .agg #[.int .i64 nu, .int .i64 de, .int .i64 tl, .slice ra n c] := hg 0
 clear hg
 have fB0 : Below w.heap.size w w := Below.refl _ _
 refine rw_ 2 [(1, 0), (2, 1)] [[], []] (rel [bx 0 #[.int .i64 nu, .int .i64 de, .int .i64 tl, .slice ra n c] 80, bx 1 #[.int .i64 0, .int .i64 0, .int .i64 0, .slice none 0 0] 80])
  ⟨fun f s W d i j k l a => opb rfl rfl (by simp [go_sem, a.e 0 k0]),
  fun f s W d i j k l a => opb rfl rfl (by simp [go_sem]), trivial⟩ ?_
 intro f1 s1 W1 hB1 g1 hg1 z1
 have fB1 := hB1.f fB0
 obtain ⟨r1_0, br1_0⟩ := hB1.is 0
 have lr1_0 := hB1.lr 0 br1_0
 obtain ⟨r1_1, br1_1⟩ := hB1.is 1
 have lr1_1 := hB1.lr 1 br1_1
 have ne1_0_1 := hB1.nb 0 1
 have k1_1 := kt hg1 1 r1_0
 refine wp_seq_k fun K2 hK2 => ?_
 refine rz 9 [(3, 0), (4, 1), (5, 2), (6, 3), (7, 4), (8, 5), (9, 6), (10, 7), (11, 8)] [[], [0], [], [2], [], [], [5], [4, 6], [1, 3, 7], [0, 1, 2, 3, 4, 5, 6, 7, 8]] (rel [is (.pointer (some ⟨(s1 0), 0, none⟩)), is (.agg #[.int .i64 nu, .int .i64 de]), is (.pointer (some ⟨(s1 0), 2, none⟩)), iI tl, row 4 0 #[] 43, is (.pointer (some ⟨(s1 0), 3, none⟩)), is (.slice ra n c), ab fun v W => IsSpV W1.heap.size n ss v W, ab fun v W => IsStB W1.heap.size nu de tl n ss v W])
  ⟨is_k, is_k, is_k, is_k, row_k, is_k, is_k, ab_k fun v W W' hb h => (IsSpV.below h hb), ab_k fun v W W' hb h => (IsStB.below h hb), trivial⟩
  ⟨fun f s W d i j k l a => opv rfl rfl (by simp [go_sem, a.e 1 k1_1]) rfl,
  fun f s W d i j k l a => opv rfl rfl (by simp [go_sem, a.e 3 (i 0 rfl), cb br1_0 d 0, cb br1_0 d 1]) rfl,
  fun f s W d i j k l a => opv rfl rfl (by simp [go_sem, a.e 1 k1_1]) rfl,
  fun f s W d i j k l a => opv rfl rfl (by simp [go_sem, a.e 5 (i 2 rfl), cb br1_0 d 2]) rfl,
  fun f s W d i j k l a => opr rfl rfl (by simp [go_sem]),
  fun f s W d i j k l a => opv rfl rfl (by simp [go_sem, a.e 1 k1_1]) rfl,
  fun f s W d i j k l a => opv rfl rfl (by simp [go_sem, a.e 8 (i 5 rfl), cb br1_0 d 3]) rfl,
  fun f s W d i j k l a => by have m := bwt fB1 d; obtain ⟨v_, W_, r_, b_, i_⟩ := cloneSpV 45 (hO.below m) hn d.size; exact opDo_value rfl rfl (run_appendOp (a.v 7 (i 4 rfl).1) (a.v 9 (i 6 rfl)) r_) b_ i_,
  fun f s W d i j k l a => by obtain ⟨a1', c2', d7, q3'⟩ := (i 7 rfl); exact opv (v := (.agg #[.int .i64 nu, .int .i64 de, .int .i64 tl, .slice a1' n c2'])) rfl rfl (by simp [go_sem, a.e 4 (i 1 rfl), a.e 6 (i 3 rfl), a.e 10 d7]) ⟨_, _, rfl, q3'⟩, trivial⟩ ?_
 intro f2 s2 W2 hB2 g2 hg2 z2
 have fB2 := hB2.f fB1
 have b2_1 := hB2.b br1_1
 obtain ⟨r2_4, br2_4⟩ := hB2.is 4
 have lr2_4 := hB2.lr 4 br2_4
 obtain ⟨a4', c5', r2_8, q6'⟩ := hB2.is 8
 have k2_2 := kt hg2 2 (kt hg1 2 r1_1)
 have k2_11 := kt hg2 11 r2_8
 obtain ⟨W3, hW3⟩ : ∃ W', W' = W2.setRow (s1 1) #[.int .i64 nu, .int .i64 de, .int .i64 tl, .slice a4' n c5'] := ⟨_, rfl⟩
 refine tsk (o := _) rfl ⟨rfl, rfl⟩ (run_seg hW3 (fr_ev k2_2) (fr_ev k2_11) b2_1 rfl rfl rfl rfl) ?_
 obtain ⟨fB3, nb3, ot3, z3⟩ := sgf hW3 fB2 b2_1 (by omega)
 clear hW3
 have q7' := (SpLB.other q6' ot3 (by omega) z3)
 refine wpe ?_
 refine hK2 _ _ ?_
 refine wp_ret ?_
 refine leave_gen (v := .agg #[.int .i64 nu, .int .i64 de, .int .i64 tl, .slice a4' n c5']) (.inr rfl) (by simp [results, Try.results18, go_sem, frv 12 k2_2, cl nb3 0, cl nb3 1, cl nb3 2, cl nb3 3]) ?_
 exact ⟨_, rfl, ⟨_, _, rfl, q7'.spl⟩, fB3⟩
theorem arm_runs (lg : Nat → Int) (qa : Option Addr) (m cq : Nat) (w : World) (hQ : RdL w qa m lg) (hm : m ≤ 1000) :
  Calls Try.prog 19 #[.slice qa m cq] w (fun e w' => ∃ v, e = .returned v ∧ IsRd m lg v w' ∧ Below w.heap.size w w') := by
 refine calls_fr Try.func19 Try.ntmps19 rfl rfl fun g hg => ?_
 have k0 : g 0 = .slice qa m cq := hg 0
 clear hg
 have fB0 : Below w.heap.size w w := Below.refl _ _
 refine rw_ 1 [(2, 0)] [[]] (rel [is (.slice none 0 0)])
  ⟨fun f s W b c d i j a => opv rfl rfl (by simp [go_sem]) rfl, trivial⟩ ?_
 intro f1 s1 W1 hB1 g1 hg1 z1
 have fB1 := hB1.f fB0
 have k1_0 := kt hg1 0 k0
 refine rx 4 [(3, 0), (4, 1), (5, 2), (2, 3)] [[], [], [0, 1], [2]] (rel [row 0 0 #[] 76, is (.slice qa m cq), ab fun v W => IsRdV W1.heap.size m lg v W, ab fun v W => IsRdV W1.heap.size m lg v W])
  ⟨row_k, is_k, ab_k fun v W W' hb h => (IsRdV.below h hb), ab_k fun v W W' hb h => (IsRdV.below h hb), trivial⟩
  ⟨fun f s W b c d i j a => opr rfl rfl (by simp [go_sem]),
  fun f s W b c d i j a => opm (a.v 0 k1_0),
  fun f s W b c d i j a => by have k := bwt fB1 b; obtain ⟨v_, W_, r_, b_, i_⟩ := cloneRdV 71 (hQ.below k) hm b.size; exact opDo_value rfl rfl (run_appendOp (a.v 3 (c 0 rfl).1) (a.v 4 (c 1 rfl)) r_) b_ i_,
  fun f s W b c d i j a => opv (v := (f 2)) rfl rfl (by simp [go_sem, (a.at' 5 rfl : j.tmps[5]?.getD undef = f 2)] <;> rfl) (c 2 rfl), trivial⟩ ?_
 intro f2 s2 W2 hB2 g2 hg2 z2
 have fB2 := hB2.f fB1
 obtain ⟨r2_0, br2_0⟩ := hB2.is 0
 have lr2_0 := hB2.lr 0 br2_0
 obtain ⟨a11', c12', r2_3, q13'⟩ := hB2.is 3
 have k2_2 := kt hg2 2 r2_3
 refine wp_ret ?_
 refine leave_one (N := 6) (.inr rfl) Try.results19 rfl k2_2 ?_
 exact ⟨_, rfl, ⟨_, _, rfl, q13'.spl⟩, fB2⟩
theorem arm_spanR (lo hi : Int) (w : World) :
  Calls Try.prog 9 #[.int .i64 lo, .int .i64 hi] w (fun e w' => e = .returned (.agg #[.int .i64 lo, .int .i64 hi]) ∧ Below w.heap.size w w') := by
 refine calls_fr Try.func9 Try.ntmps9 rfl rfl fun g hg => ?_
 have k0 : g 0 = .int .i64 lo := hg 0
 have k1 : g 1 = .int .i64 hi := hg 1
 clear hg
 have fB0 : Below w.heap.size w w := Below.refl _ _
 refine rw_ 1 [(4, 0)] [[]] (rel [bx 0 #[.int .i64 0, .int .i64 0] 43])
  ⟨fun f s W c d h i j a => opb rfl rfl (by simp [go_sem]), trivial⟩ ?_
 intro f1 s1 W1 hB1 g1 hg1 z1
 obtain ⟨r1_0, br1_0⟩ := hB1.is 0
 have lr1_0 := hB1.lr 0 br1_0
 have k1_0 := kt hg1 0 k0
 have k1_1 := kt hg1 1 k1
 refine wp_seq_k fun K2 hK2 => ?_
 refine ry 3 [(5, 0), (6, 1), (7, 2)] [[], [], [0, 1], [0, 1, 2]] (rel [iI lo, iI hi, is (.agg #[.int .i64 lo, .int .i64 hi])])
  ⟨fun f s W c d h i j a => opm (a.v 0 k1_0),
  fun f s W c d h i j a => opm (a.v 1 k1_1),
  fun f s W c d h i j a => opv rfl rfl (by simp [go_sem, a.e 5 (d 0 rfl), a.e 6 (d 1 rfl)]) rfl, trivial⟩ ?_
 intro f2 s2 W2 hB2 g2 hg2 z2
 have fB2 := hB2.f (hB1.f fB0)
 have b2_0 := hB2.b br1_0
 have k2_4 := kt hg2 4 (kt hg1 4 r1_0)
 have k2_7 := kt hg2 7 (hB2.is 2)
 obtain ⟨W3, hW3⟩ : ∃ W', W' = W2.setRow (s1 0) #[.int .i64 lo, .int .i64 hi] := ⟨_, rfl⟩
 refine tsk (o := _) rfl ⟨rfl, rfl⟩ (run_seg hW3 (fr_ev k2_4) (fr_ev k2_7) b2_0 rfl rfl rfl rfl) ?_
 obtain ⟨fB3, nb3, ot3, z3⟩ := sgf hW3 fB2 b2_0 (by omega)
 clear hW3
 refine wpe ?_
 refine hK2 _ _ ?_
 refine wp_ret ?_
 refine leave_gen (v := .agg #[.int .i64 lo, .int .i64 hi]) (.inr rfl) (by simp [results, Try.results9, go_sem, frv 8 k2_4, cl nb3 0, cl nb3 1]) ?_
 exact ⟨rfl, fB3⟩
theorem arm_within (x lo hi : Int) (w : World) :
  Calls Try.prog 23 #[.int .i64 x, .agg #[.int .i64 lo, .int .i64 hi]] w (fun e w' => e = .returned (.bool (decide (lo ≤ x) && decide (x ≤ hi))) ∧ Below w.heap.size w w') := by
 refine calls_fr Try.func23 Try.ntmps23 rfl rfl fun g hg => ?_
 have k0 : g 0 = .int .i64 x := hg 0
 have k1 : g 1 = .agg #[.int .i64 lo, .int .i64 hi] := hg 1
 clear hg
 have fB0 : Below w.heap.size w w := Below.refl _ _
 refine rw_ 2 [(3, 0), (4, 1)] [[], []] (rel [bx 0 #[.int .i64 lo, .int .i64 hi] 43, iB false])
  ⟨fun f s W h i j k l a => opb rfl rfl (by simp [go_sem, a.e 1 k1]),
  fun f s W h i j k l a => opz, trivial⟩ ?_
 intro f1 s1 W1 hB1 g1 hg1 z1
 obtain ⟨r1_0, br1_0⟩ := hB1.is 0
 have lr1_0 := hB1.lr 0 br1_0
 have k1_0 := kt hg1 0 k0
 have k1_3 := kt hg1 3 r1_0
 refine rw_ 11 [(5, 0), (6, 1), (7, 2), (8, 3), (9, 4), (10, 5), (11, 6), (12, 7), (13, 8), (14, 9), (4, 10)] [[], [], [1], [0, 2], [3], [4], [4], [4, 6], [4, 5, 7], [4, 8], [9]] (rel [iI x, is (.pointer (some ⟨(s1 0), 0, none⟩)), iI lo, iB (decide (lo ≤ x)), iB (decide (lo ≤ x)), gd (decide (lo ≤ x)) true (iI x), gd (decide (lo ≤ x)) true (is (.pointer (some ⟨(s1 0), 1, none⟩))), gd (decide (lo ≤ x)) true (iI hi), gd (decide (lo ≤ x)) true (iB (decide (x ≤ hi))), iB ((decide (lo ≤ x)) && (decide (x ≤ hi))), iB ((decide (lo ≤ x)) && (decide (x ≤ hi)))])
  ⟨fun f s W h i j k l a => opm (a.v 0 k1_0),
  fun f s W h i j k l a => opv rfl rfl (by simp [go_sem, a.e 3 k1_3]) rfl,
  fun f s W h i j k l a => opv rfl rfl (by simp [go_sem, a.e 6 (i 1 rfl), cb br1_0 h 0]) rfl,
  fun f s W h i j k l a => opv rfl rfl (by simp [go_sem, a.e 5 (i 0 rfl), a.e 7 (i 2 rfl)]) rfl,
  fun f s W h i j k l a => opm (a.v 8 (i 3 rfl)),
  fun f s W h i j k l a => gdo rfl rfl (a.says (d := 9) rfl rfl (i 4 rfl)) fun hgd0 => gv (by simp [go_sem, a.e 0 k1_0]) rfl,
  fun f s W h i j k l a => gdo rfl rfl (a.says (d := 9) rfl rfl (i 4 rfl)) fun hgd0 => gv (by simp [go_sem, a.e 3 k1_3]) rfl,
  fun f s W h i j k l a => gdo rfl rfl (a.says (d := 9) rfl rfl (i 4 rfl)) fun hgd0 => gv (by simp [go_sem, a.e 11 ((i 6 rfl).1 hgd0), cb br1_0 h 1]) rfl,
  fun f s W h i j k l a => gdo rfl rfl (a.says (d := 9) rfl rfl (i 4 rfl)) fun hgd0 => gv (by simp [go_sem, a.e 10 ((i 5 rfl).1 hgd0), a.e 12 ((i 7 rfl).1 hgd0)]) rfl,
  fun f s W h i j k l a => opk (c := decide (lo ≤ x)) rfl rfl (fun hpk => by first | (simp [go_sem, hpk, a.e 9 (i 4 rfl)]; done) | (have hpk' := hpk; simp at hpk'; simp [go_sem, hpk', hpk, a.e 9 (i 4 rfl)]; done) | (have hpk' := of_decide_eq_false hpk; simp only [Int.ofNat_lt] at hpk'; simp [go_sem, hpk', hpk, a.e 9 (i 4 rfl)])) (fun hpk => by first | (simp [go_sem, hpk, a.e 9 (i 4 rfl), a.e 13 ((i 8 rfl).1 hpk)]; done) | (have hpk' := hpk; simp at hpk'; simp [go_sem, hpk', hpk, a.e 9 (i 4 rfl), a.e 13 ((i 8 rfl).1 hpk)]; done) | (have hpk' := of_decide_eq_false hpk; simp only [Int.ofNat_lt] at hpk'; simp [go_sem, hpk', hpk, a.e 9 (i 4 rfl), a.e 13 ((i 8 rfl).1 hpk)])),
  fun f s W h i j k l a => opm (a.v 14 (i 9 rfl)), trivial⟩ ?_
 intro f2 s2 W2 hB2 g2 hg2 z2
 have fB2 := hB2.f (hB1.f fB0)
 have k2_4 := kt hg2 4 (hB2.is 10)
 refine wp_ret ?_
 refine leave_one (N := 15) (.inr rfl) Try.results23 rfl k2_4 ?_
 exact ⟨rfl, fB2⟩
theorem in_mul {b d : Int} (hb : 0 ≤ b ∧ b ≤ 255) (hd : 0 ≤ d) : 0 ≤ b * d ∧ b * d ≤ 255 * d :=
  ⟨Int.mul_nonneg hb.1 hd, Int.mul_le_mul_of_nonneg_right hb.2 hd⟩
def inF (s : Int × Int) (b : Int) : Int := s.1 + b * (s.2 - s.1) / 255
theorem inF_in {tl : Int} {s : Int × Int} (h : RoIn tl s) {b : Int} (hb : 0 ≤ b ∧ b ≤ 255) : s.1 ≤ inF s b ∧ inF s b ≤ s.2 ∧ 0 ≤ b * (s.2 - s.1) ∧ b * (s.2 - s.1) ≤ 255 * (s.2 - s.1) := by
  have h0 := h.h
  have := in_mul hb (d := s.2 - s.1) (by omega)
  unfold inF
  omega
theorem arm_in (lo hi by_ : Int) (w : World) (hl : 0 ≤ lo ∧ lo ≤ hi ∧ hi ≤ 10000) (hb : 0 ≤ by_ ∧ by_ ≤ 255) :
  Calls Try.prog 44 #[.agg #[.int .i64 lo, .int .i64 hi], .int .i64 by_] w (fun e w' => e = .returned (.int .i64 (lo + by_ * (hi - lo) / 255)) ∧ Below w.heap.size w w') := by
 have hm_ := in_mul hb (d := hi - lo) (by omega)
 refine calls_fr Try.func44 Try.ntmps44 rfl rfl fun g hg => ?_
 have k0 : g 0 = .agg #[.int .i64 lo, .int .i64 hi] := hg 0
 have k1 : g 1 = .int .i64 by_ := hg 1
 clear hg
 have fB0 : Below w.heap.size w w := Below.refl _ _
 refine rw_ 2 [(2, 0), (4, 1)] [[], []] (rel [bx 0 #[.int .i64 lo, .int .i64 hi] 43, iI 0])
  ⟨fun f s W c h i j k a => opb rfl rfl (by simp [go_sem, a.e 0 k0]),
  fun f s W c h i j k a => opz, trivial⟩ ?_
 intro f1 s1 W1 hB1 g1 hg1 z1
 obtain ⟨r1_0, br1_0⟩ := hB1.is 0
 have lr1_0 := hB1.lr 0 br1_0
 have k1_1 := kt hg1 1 k1
 have k1_2 := kt hg1 2 r1_0
 refine rw_ 12 [(5, 0), (6, 1), (7, 2), (8, 3), (9, 4), (10, 5), (11, 6), (12, 7), (13, 8), (14, 9), (15, 10), (4, 11)] [[], [0], [], [], [3], [], [5], [4, 6], [2, 7], [8], [1, 9], [10]] (rel [is (.pointer (some ⟨(s1 0), 0, none⟩)), iI lo, iI by_, is (.pointer (some ⟨(s1 0), 1, none⟩)), iI hi, is (.pointer (some ⟨(s1 0), 0, none⟩)), iI lo, iI (hi - lo), iI (by_ * (hi - lo)), iI (by_ * (hi - lo) / 255), iI (lo + (by_ * (hi - lo) / 255)), iI (lo + (by_ * (hi - lo) / 255))])
  ⟨fun f s W c h i j k a => opv rfl rfl (by simp [go_sem, a.e 2 k1_2]) rfl,
  fun f s W c h i j k a => opv rfl rfl (by simp [go_sem, a.e 5 (h 0 rfl), cb br1_0 c 0]) rfl,
  fun f s W c h i j k a => opm (a.v 1 k1_1),
  fun f s W c h i j k a => opv rfl rfl (by simp [go_sem, a.e 2 k1_2]) rfl,
  fun f s W c h i j k a => opv rfl rfl (by simp [go_sem, a.e 8 (h 3 rfl), cb br1_0 c 1]) rfl,
  fun f s W c h i j k a => opv rfl rfl (by simp [go_sem, a.e 2 k1_2]) rfl,
  fun f s W c h i j k a => opv rfl rfl (by simp [go_sem, a.e 10 (h 5 rfl), cb br1_0 c 0]) rfl,
  fun f s W c h i j k a => opv rfl rfl (by simp [go_sem, a.e 9 (h 4 rfl), a.e 11 (h 6 rfl), IntWalk.i64_in (hi - lo) (by omega)]) rfl,
  fun f s W c h i j k a => opv rfl rfl (by simp [go_sem, a.e 7 (h 2 rfl), a.e 12 (h 7 rfl), IntWalk.i64_in (by_ * (hi - lo)) (by omega)]) rfl,
  fun f s W c h i j k a => by have qu_ : (by_ * (hi - lo)).tdiv 255 = by_ * (hi - lo) / 255 := Int.tdiv_eq_ediv_of_nonneg (by omega); have qw_ := IntWalk.i64_in (by_ * (hi - lo) / 255) (by omega); exact opv rfl rfl (by simp [go_sem, a.e 13 (h 8 rfl), qu_, qw_]) rfl,
  fun f s W c h i j k a => opv rfl rfl (by simp [go_sem, a.e 6 (h 1 rfl), a.e 14 (h 9 rfl), IntWalk.i64_in (lo + (by_ * (hi - lo) / 255)) (by omega)]) rfl,
  fun f s W c h i j k a => opm (a.v 15 (h 10 rfl)), trivial⟩ ?_
 intro f2 s2 W2 hB2 g2 hg2 z2
 have fB2 := hB2.f (hB1.f fB0)
 have k2_4 := kt hg2 4 (hB2.is 11)
 refine wp_ret ?_
 refine leave_one (N := 16) (.inr rfl) Try.results44 rfl k2_4 ?_
 exact ⟨rfl, fB2⟩
theorem arm_byte_nil (a : Option Addr) (c : Nat) (kq : Int) (w : World) :
  Calls Try.prog 45 #[.slice a 0 c, .int .i64 kq] w (fun e w' => e = .returned (.int .i64 0) ∧ Below w.heap.size w w') := by
 refine calls_fr Try.func45 Try.ntmps45 rfl rfl fun g hg => ?_
 have k0 : g 0 = .slice a 0 c := hg 0
 have k1 : g 1 = .int .i64 kq := hg 1
 clear hg
 have fB0 : Below w.heap.size w w := Below.refl _ _
 refine rw_ 1 [(4, 0)] [[]] (rel [iI 0])
  ⟨fun f s W d h i j k b => opz, trivial⟩ ?_
 intro f1 s1 W1 hB1 g1 hg1 z1
 have k1_0 := kt hg1 0 k0
 refine wp_seq_k fun K2 hK2 => ?_
 refine rw_ 3 [(5, 0), (6, 1), (7, 2)] [[], [0], [1]] (rel [is (.slice a 0 c), iI 0, iB true])
  ⟨fun f s W d h i j k b => opm (b.v 0 k1_0),
  fun f s W d h i j k b => opv rfl rfl (by simp [go_sem, b.e 5 (h 0 rfl)]) rfl,
  fun f s W d h i j k b => opv rfl rfl (by simp [go_sem, b.e 6 (h 1 rfl)]) rfl, trivial⟩ ?_
 intro f2 s2 W2 hB2 g2 hg2 z2
 have k2_7 := kt hg2 7 (hB2.is 2)
 refine wp_cond_true ((fr_eval rfl).trans k2_7) ?_
 refine rw_ 1 [(4, 0)] [[]] (rel [iI 0])
  ⟨fun f s W d h i j k b => opz, trivial⟩ ?_
 intro f3 s3 W3 hB3 g3 hg3 z3
 have fB3 := hB3.f (hB2.f (hB1.f fB0))
 have k3_4 := kt hg3 4 (hB3.is 0)
 refine wp_ret ?_
 refine then_ret ?_
 refine leave_one (N := 16) (.inr rfl) Try.results45 rfl k3_4 ?_
 exact ⟨rfl, fB3⟩
theorem arm_byte_at (bs : Nat → Int) (bb oo nn cc : Nat) (kq : Int) (qm : Nat) (w : World) (hR : ByR w bb oo nn bs) (gk : 0 ≤ kq ∧ kq ≤ 1000) (gn : 1 ≤ nn ∧ nn ≤ 9223372036854775807) (hqm : kq % (nn : Int) = (qm : Int)) (gbs : 0 ≤ bs qm ∧ bs qm ≤ 255) :
  Calls Try.prog 45 #[.slice (some ⟨bb, oo, none⟩) nn cc, .int .i64 kq] w (fun e w' => e = .returned (.int .i64 (bs qm)) ∧ Below w.heap.size w w') := by
 have hn0 : ((nn : Int) == 0) = false := beq_eq_false_iff_ne.2 (by omega)
 have hlt_ : kq % (nn : Int) < (nn : Int) := Int.emod_lt_of_pos _ (by omega)
 have ln : qm < nn := by omega
 have lz : (qm : Int) < (nn : Int) := by omega
 have li := Nat.not_le.2 ln
 refine calls_fr Try.func45 Try.ntmps45 rfl rfl fun g hg => ?_
 have k0 : g 0 = .slice (some ⟨bb, oo, none⟩) nn cc := hg 0
 have k1 : g 1 = .int .i64 kq := hg 1
 clear hg
 have fB0 : Below w.heap.size w w := Below.refl _ _
 refine rw_ 1 [(4, 0)] [[]] (rel [iI 0])
  ⟨fun f s W b c d h i a => opz, trivial⟩ ?_
 intro f1 s1 W1 hB1 g1 hg1 z1
 have k1_0 := kt hg1 0 k0
 refine wp_seq_k fun K2 hK2 => ?_
 refine rw_ 3 [(5, 0), (6, 1), (7, 2)] [[], [0], [1]] (rel [is (.slice (some ⟨bb, oo, none⟩) nn cc), iI ((nn : Int)), iB ((nn : Int) == 0)])
  ⟨fun f s W b c d h i a => opm (a.v 0 k1_0),
  fun f s W b c d h i a => opv rfl rfl (by simp [go_sem, a.e 5 (c 0 rfl)]) rfl,
  fun f s W b c d h i a => opv rfl rfl (by simp [go_sem, a.e 6 (c 1 rfl)]) rfl, trivial⟩ ?_
 intro f2 s2 W2 hB2 g2 hg2 z2
 have fB2 := hB2.f (hB1.f fB0)
 have k2_0 := kt hg2 0 k1_0
 have k2_1 := kt hg2 1 (kt hg1 1 k1)
 have k2_7 := kt hg2 7 (hB2.is 2)
 have hc4 : (fr 16 g2).eval (.tmp 7) = .bool false := ((fr_eval rfl).trans k2_7).trans (by rw [hn0])
 refine wp_cond_false (hc4) ?_
 refine wp_skip ?_
 refine hK2 _ _ ?_
 refine rw_ 9 [(8, 0), (9, 1), (10, 2), (11, 3), (12, 4), (13, 5), (14, 6), (15, 7), (4, 8)] [[], [], [], [2], [1, 3], [0, 4], [5], [6], [7]] (rel [is (.slice (some ⟨bb, oo, none⟩) nn cc), iI kq, is (.slice (some ⟨bb, oo, none⟩) nn cc), iI ((nn : Int)), iI ((qm : Int)), is (.pointer (some ⟨bb, oo + qm, none⟩)), is (.int .u8 ((bs qm))), iI ((bs qm)), iI ((bs qm))])
  ⟨fun f s W b c d h i a => opm (a.v 0 k2_0),
  fun f s W b c d h i a => opm (a.v 1 k2_1),
  fun f s W b c d h i a => opm (a.v 0 k2_0),
  fun f s W b c d h i a => opv rfl rfl (by simp [go_sem, a.e 10 (c 2 rfl)]) rfl,
  fun f s W b c d h i a => by have qu_ : (kq).tmod (nn : Int) = (qm : Int) := (Int.tmod_eq_emod_of_nonneg (by omega)).trans hqm; have qw_ := IntWalk.i64_in (qm : Int) (by omega); have qz_ : ¬ (nn : Int) = 0 := (by omega); have qn_ : ¬ nn = 0 := (by omega); exact opv rfl rfl (by simp [go_sem, a.e 9 (c 1 rfl), a.e 11 (c 3 rfl), qu_, qw_, qz_, qn_]) rfl,
  fun f s W b c d h i a => opv rfl rfl (by simp [go_sem, a.e 8 (c 0 rfl), a.e 12 (c 4 rfl), li, ln, lz]) rfl,
  fun f s W b c d h i a => by have j := bwt fB2 b; have cu := (hR.below j).2 qm ln; exact opv rfl rfl (by simp [go_sem, a.e 13 (c 5 rfl), cu]) rfl,
  fun f s W b c d h i a => by have cv_ := IntWalk.i64_in (bs qm) (by omega); exact opv rfl rfl (by simp [go_sem, a.e 14 (c 6 rfl), cv_]) rfl,
  fun f s W b c d h i a => opm (a.v 15 (c 7 rfl)), trivial⟩ ?_
 intro f3 s3 W3 hB3 g3 hg3 z3
 have fB3 := hB3.f fB2
 have k3_4 := kt hg3 4 (hB3.is 8)
 refine wp_ret ?_
 refine leave_one (N := 16) (.inr rfl) Try.results45 rfl k3_4 ?_
 exact ⟨rfl, fB3⟩
theorem arm_byte_any (a : Option Addr) (n c : Nat) (bs : Nat → Int) (k : Nat) (w : World) (h : ByV w a n bs) (hk : k ≤ 1000) :
    Calls Try.prog 45 #[.slice a n c, .int .i64 k] w (fun e w' => e = .returned (.int .i64 (byAt n bs k)) ∧ Below w.heap.size w w') := by
  by_cases h0 : n = 0
  · subst h0
    have := arm_byte_nil a c (k : Int) w
    simpa [byAt] using this
  · rcases h with h | ⟨b, o, rfl, h1, h2, h3⟩
    · exact absurd h h0
    · have hl : k % n < n := Nat.mod_lt _ (by omega)
      have := arm_byte_at bs b o n c (k : Int) (k % n) w h1 (by omega) (by omega) (by simp) (h3 _ hl)
      rw [show byAt n bs k = bs (k % n) from by unfold byAt; rw [if_neg h0]]
      exact this
end Go.Proofs.Ytcgccflcjejlhaa
