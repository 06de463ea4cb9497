/- Part of the proof: what the claim leans on. -/
import Derived.Test.YthnediamopehfaaGreatVAA
import Derived.Test.YthnediamopehfaaGreatVAL
import Derived.Test.YthnediamopehfaaGreatVAM
import Derived.Test.YthnediamopehfaaGreatVAB
import Derived.Test.YthnediamopehfaaGreatVAC
import Derived.Test.YthnediamopehfaaGreatVAD
import Derived.Test.YthnediamopehfaaGreatVAE
import Derived.Test.YthnediamopehfaaGreatVAF
import Derived.Test.YthnediamopehfaaGreatVAG
import Derived.Test.YthnediamopehfaaGreatVAH
import Derived.Test.YthnediamopehfaaGreatVAI
import Derived.Test.YthnediamopehfaaGreatVAJ
import Derived.Test.YthnediamopehfaaGreatVAK
import Derived.Test.YthnediamopehfaaGreatVAT
import Derived.Test.YthnediamopehfaaGreatVAX
import Derived.Test.YthnediamopehfaaGreatVAY
import Derived.Test.YthnediamopehfaaGreatVAN
import Derived.Test.YthnediamopehfaaGreatVAO
import Derived.Test.YthnediamopehfaaGreatVAP
import Derived.Test.YthnediamopehfaaGreatVAQ
import Derived.Test.YthnediamopehfaaGreatVAR
import Derived.Test.YthnediamopehfaaGreatVAS
import Derived.Test.YthnediamopehfaaGreatVAU
import Derived.Test.YthnediamopehfaaGreatVAV
import Derived.Test.YthnediamopehfaaGreatVAW
import Derived.Test.YthnediamopehfaaGreatVKnown
import Derived.Lib.SmallJoins
import Derived.Laws.CopyRow
import Derived.Laws.CopyOwn
import Derived.ArgAppend
set_option maxHeartbeats 2000000
set_option maxRecDepth 100000
set_option linter.unusedSimpArgs false
set_option linter.unusedVariables false
namespace Go.Proofs.YthnediamopehfaaGreat
open Go.RowKit
section
variable {P : Program} {ops : Array Oper} {Q : Exit → Act → World → Prop}
end
def IsIi (xs : List Int) (v : Value) (W : World) : Prop := ∃ a c, v = .slice a xs.length c ∧ Ii W a xs.length c xs
def IsPp (xs : List (Int × Int)) (v : Value) (W : World) : Prop := ∃ a c, v = .slice a xs.length c ∧ Pp W a xs.length c xs
theorem IsIi.below {xs : List Int} {v : Value} {W W' : World} (h : IsIi xs v W) (hb : Below W.heap.size W W') : IsIi xs v W' := by
  obtain ⟨a, c, e, h⟩ := h; exact ⟨a, c, e, h.below hb (Nat.le_refl _)⟩
theorem IsPp.below {xs : List (Int × Int)} {v : Value} {W W' : World} (h : IsPp xs v W) (hb : Below W.heap.size W W') : IsPp xs v W' := by
  obtain ⟨a, c, e, h⟩ := h; exact ⟨a, c, e, h.below hb (Nat.le_refl _)⟩
def NwIi (B : Nat) (xs : List Int) (v : Value) (W : World) : Prop := ∃ g c, v = .slice (some ⟨g, 0, none⟩) xs.length c ∧ Ii W (some ⟨g, 0, none⟩) xs.length c xs ∧ B ≤ g ∧ g < W.heap.size
theorem NwIi.below {B : Nat} {xs : List Int} {v : Value} {W W' : World} (h : NwIi B xs v W) (hb : Below W.heap.size W W') : NwIi B xs v W' := by
  obtain ⟨g, c, e, h, h1, h2⟩ := h; exact ⟨g, c, e, h.below hb (Nat.le_refl _), h1, Nat.lt_of_lt_of_le h2 hb.size⟩
theorem Behind.off {R : Nat → Value → (Nat → Nat) → World → Prop} {w : World} {n : Nat} {f : Nat → Value} {s : Nat → Nat} {W : World} (h : Behind R w n f s W) (i j : Nat) (hi : i < n) (hj : j < n) (hij : i ≠ j) {g : Nat}
    (hg : s i ≤ g) (h1 : ∀ W, R i (f i) s W → g < W.heap.size) (h2 : ∀ v s W, R j v s W → s j < W.heap.size) : g ≠ s j := by
  obtain ⟨t, ht, hd⟩ := h.apart
  obtain ⟨a, b, W1, r1, z1⟩ := ht i hi
  obtain ⟨c, d, W2, r2, z2⟩ := ht j hj
  have := h1 _ r1; have := h2 _ _ _ r2
  have := hd i j hi hj hij
  omega
open Go.RowKit
theorem clone_run (ty : TypeId) (W : World) (g : Nat) (a : Option Addr) (c : Nat) (xs : List Int) (h : Ii W a xs.length c xs) (hn : xs.length ≤ 1000) (hg : W.heap[g]? = some (.cells #[] 3 (0, 0))) (B : Nat) (hB : B ≤ g) (hB2 : B ≤ W.heap.size) :
    ∃ v W', (Builtin.append_ #[22, 22] ty #[.slice (some ⟨g, 0, none⟩) 0 0, .slice a xs.length c]).run Tryz.prog W = .ok v W' ∧ Below W.heap.size W W' ∧ NwIi B xs v W' := by
  obtain ⟨i0, hi, hz0, hz1, hz2⟩ := info_parts Tryz.info3x
  have hg' : g < W.heap.size := ltb hg
  by_cases hne : 0 < xs.length
  · obtain ⟨b, off, rfl, hb, hc⟩ := h.at hne
    obtain ⟨v, W', hr, hown, hgr⟩ := run_append_arg_grows (P := Tryz.prog) W 22 ty 3 i0 (.int .i64 0) 1 8 Tryz.underlying22 hi hz0 hz1 hz2 rfl (by decide) ⟨g, 0, none⟩ 0 0 [] rfl (fun j u hj => by simp at hj) ⟨b, off, none⟩ xs.length c (xs.map (Value.int .i64)) (by simp)
      (fun j u hj => by
        have hj' : j < xs.length := by
          rcases Nat.lt_or_ge j xs.length with h' | h'
          · exact h'
          · rw [List.getElem?_eq_none (by simpa using h')] at hj; cases hj
        rw [show ((⟨b, off, none⟩ : Addr).add j) = ⟨b, off + j, none⟩ from by unfold Addr.add; split <;> simp_all, hc j hj']
        simp [List.getElem?_map, hj'] at hj
        subst hj
        simp [List.getD_eq_getElem?_getD, hj'])
      (by omega) (by unfold maxLen; omega) (by omega)
    obtain ⟨g2, cap2, rfl⟩ := Joins.ownsRow_form hown (by omega)
    simp only [Nat.zero_add, List.nil_append] at hown hr
    exact ⟨_, W', hr, (Below.refl _ _).grown hgr (Nat.le_refl _) (fun k e => by cases e), g2, _, rfl, owns_ii (xs := xs) hown, Nat.le_trans hB2 (own_ge hown g2 rfl), own_lt' hown⟩
  · obtain rfl : xs = [] := by cases xs with | nil => rfl | cons x r => simp at hne
    have ii0 : Ii W (some ⟨g, 0, none⟩) 0 0 [] := ⟨rfl, Nat.le_refl _, by unfold maxLen; omega, by simp, .inl rfl⟩
    cases a with
    | none =>
      obtain rfl : c = 0 := h.2.2.2.1 rfl
      have hown : W.ownsRow 0 3 1 (.slice (some ⟨g, 0, none⟩) 0 0) 0 [] := ⟨rfl, .inr ⟨g, 0, #[], rfl, Nat.zero_le _, hg, Nat.le_refl _, by unfold maxLen; omega, rfl, rfl⟩⟩
      exact ⟨_, W, run_append_owned_none (P := Tryz.prog) W 0 22 ty 3 i0 1 Tryz.underlying22 hi _ 0 [] hown, Below.refl _ _, _, _, rfl, ii0, hB, hg'⟩
    | some ad =>
      have hr := run_append_room_cells (P := Tryz.prog) W 22 ty 3 i0 Tryz.underlying22 hi g 0 0 0 ad 0 c [] (by simp) (by simp) (by simp) (by omega) (by simp) (by simp)
      refine ⟨_, _, hr, ?_, g, _, rfl, ?_, hB, ?_⟩
      · simp [World.setCells]; exact Below.refl _ _
      · simp [World.setCells]; exact ii0
      · simp [World.setCells]; exact hg'
theorem NwBlk.low {B B' : Nat} {b : Bl} {v : Value} {W : World} (h : NwBlk B b v W) (hB : B' ≤ B) : NwBlk B' b v W := by
  obtain ⟨g1, c1, g2, c2, g3, c3, e, ⟨h1, l1, m1⟩, ⟨h2, l2, m2⟩, ⟨h3, l3, m3⟩⟩ := h
  exact ⟨g1, c1, g2, c2, g3, c3, e, ⟨h1, Nat.le_trans hB l1, m1⟩, ⟨h2, Nat.le_trans hB l2, m2⟩, ⟨h3, Nat.le_trans hB l3, m3⟩⟩
theorem NwBlk.lt {B : Nat} {b : Bl} {v : Value} {W : World} (h : NwBlk B b v W) {x1 x2 x3 x4 : Value} {g1 g2 g3 n1 n2 n3 c1 c2 c3 : Nat} (e : v = .agg #[x1, .slice (some ⟨g1, 0, none⟩) n1 c1, x2, .slice (some ⟨g2, 0, none⟩) n2 c2, .slice (some ⟨g3, 0, none⟩) n3 c3, x3, x4]) : g1 < W.heap.size ∧ g2 < W.heap.size ∧ g3 < W.heap.size := by
  obtain ⟨h1, d1, h2, d2, h3, d3, e', ⟨-, -, m1⟩, ⟨-, -, m2⟩, ⟨-, -, m3⟩⟩ := h
  rw [e] at e'
  simp only [Value.agg.injEq, Array.mk.injEq, List.cons.injEq, Value.slice.injEq, Option.some.injEq, Addr.mk.injEq, and_true] at e'
  obtain ⟨-, ⟨rfl, -⟩, -, ⟨rfl, -⟩, ⟨rfl, -⟩, -, -⟩ := e'
  exact ⟨m1, m2, m3⟩
open Go.RowKit
def inB (n lo hi : Int) : Bool := decide (lo ≤ n) && decide (n ≤ hi)
open Go.RowKit
theorem copy_any (a1 a2 a3 : Option Addr) (c1 c2 c3 : Nat) (b : Bl) (w : World) (h1 : Ii w a1 b.panels.length c1 b.panels) (h2 : Ii w a2 b.top.length c2 b.top) (h3 : Ii w a3 b.bottom.length c3 b.bottom) (n1 : b.panels.length ≤ 1000) (n2 : b.top.length ≤ 1000) (n3 : b.bottom.length ≤ 1000) :
  Calls Tryz.prog 48 #[.agg #[.int .i64 b.tab, .slice a1 (b.panels.length) c1, .int .i64 b.height, .slice a2 (b.top.length) c2, .slice a3 (b.bottom.length) c3, .int .i64 b.slot, .bool b.isOpen]] w (NwBlkP b w) := by
 refine calls_fr Tryz.func48 Tryz.ntmps48 rfl rfl fun g hg => ?_
 have k0 : g 0 = .agg #[.int .i64 b.tab, .slice a1 (b.panels.length) c1, .int .i64 b.height, .slice a2 (b.top.length) c2, .slice a3 (b.bottom.length) c3, .int .i64 b.slot, .bool b.isOpen] := hg 0
 clear hg
 have fB0 : Below w.heap.size w w := Below.refl _ _
 refine rw_ 2 [(1, 0), (2, 1)] [[], []] (rel [bx 0 #[.int .i64 b.tab, .slice a1 (b.panels.length) c1, .int .i64 b.height, .slice a2 (b.top.length) c2, .slice a3 (b.bottom.length) c3, .int .i64 b.slot, .bool b.isOpen] 24, bx 1 #[.int .i64 0, .slice none 0 0, .int .i64 0, .slice none 0 0, .slice none 0 0, .int .i64 0, .bool false] 24])
  ⟨fun f s W c d i j a ha => opb rfl rfl (by simp [go_sem, ha.e 0 k0]),
  fun f s W c d i j a ha => opb rfl rfl (by simp [go_sem]), trivial⟩ ?_
 intro f1 s1 W1 hB1 g1 hg1 z1
 have fB1 := hB1.f fB0
 obtain ⟨r1_0, br1_0⟩ := hB1.is 0
 have lr1_0 := hB1.lr 0 br1_0
 obtain ⟨r1_1, br1_1⟩ := hB1.is 1
 have lr1_1 := hB1.lr 1 br1_1
 have ne1_0_1 : s1 0 ≠ s1 1 := hB1.ne 0 1 (by decide) (by decide) (by decide) (fun _ _ _ h => ltb h.2) (fun _ _ _ h => ltb h.2)
 have k1_1 := kt hg1 1 r1_0
 refine wp_seq_k fun K2 hK2 => ?_
 refine rz 13 [(3, 0), (4, 1), (5, 2), (6, 3), (7, 4), (8, 5), (9, 6), (10, 7), (11, 8), (12, 9), (13, 10), (14, 11), (15, 12), (16, 14), (17, 16)] [[], [], [1], [0, 1, 2], [], [], [5], [0, 1, 2, 3, 4, 5, 6], [], [], [9], [0, 1, 2, 3, 4, 5, 6, 7, 8, 9, 10], [], [0, 1, 2, 3, 4, 5, 6, 7, 8, 9, 10, 11, 12], [0, 1, 2, 3, 4, 5, 6, 7, 8, 9, 10, 11, 12, 13], [0, 1, 2, 3, 4, 5, 6, 7, 8, 9, 10, 11, 12, 13, 14], [0, 1, 2, 3, 4, 5, 6, 7, 8, 9, 10, 11, 12, 13, 14, 15], [0, 1, 2, 3, 4, 5, 6, 7, 8, 9, 10, 11, 12, 13, 14, 15, 16]] (rel [row 0 0 #[] 3, is (.pointer (some ⟨(s1 0), 1, none⟩)), is (.slice a1 (b.panels.length) c1), ab fun v W => NwIi W1.heap.size (b.panels) v W, row 4 0 #[] 3, is (.pointer (some ⟨(s1 0), 3, none⟩)), is (.slice a2 (b.top.length) c2), ab fun v W => NwIi W1.heap.size (b.top) v W, row 8 0 #[] 3, is (.pointer (some ⟨(s1 0), 4, none⟩)), is (.slice a3 (b.bottom.length) c3), ab fun v W => NwIi W1.heap.size (b.bottom) v W, is (.pointer (some ⟨(s1 0), 1, none⟩))])
  ⟨row_k, is_k, is_k, ab_k fun v W W' hb h => h.below hb, row_k, is_k, is_k, ab_k fun v W W' hb h => h.below hb, row_k, is_k, is_k, ab_k fun v W W' hb h => h.below hb, is_k, trivial⟩
  ⟨fun f s W c d i j a ha => opr rfl rfl (by simp [go_sem]),
  fun f s W c d i j a ha => opv rfl rfl (by simp [go_sem, ha.e 1 k1_1]) rfl,
  fun f s W c d i j a ha => opv rfl rfl (by simp [go_sem, ha.e 4 (d 1 rfl), cb br1_0 c 1]) rfl,
  fun f s W c d i j a ha => by have k := bwt fB1 c; obtain ⟨v_, W_, r_, b_, i_⟩ := clone_run 22 W (s 0) (a1) (c1) (b.panels) ((h1.below k (Nat.le_refl _))) (n1) (d 0 rfl).2 W1.heap.size (i 0 rfl) c.size; exact opDo_value rfl rfl (run_appendOp (ha.v 3 (d 0 rfl).1) (ha.v 5 (d 2 rfl)) r_) b_ i_,
  fun f s W c d i j a ha => opr rfl rfl (by simp [go_sem]),
  fun f s W c d i j a ha => opv rfl rfl (by simp [go_sem, ha.e 1 k1_1]) rfl,
  fun f s W c d i j a ha => opv rfl rfl (by simp [go_sem, ha.e 8 (d 5 rfl), cb br1_0 c 3]) rfl,
  fun f s W c d i j a ha => by have k := bwt fB1 c; obtain ⟨v_, W_, r_, b_, i_⟩ := clone_run 22 W (s 4) (a2) (c2) (b.top) ((h2.below k (Nat.le_refl _))) (n2) (d 4 rfl).2 W1.heap.size (i 4 rfl) c.size; exact opDo_value rfl rfl (run_appendOp (ha.v 7 (d 4 rfl).1) (ha.v 9 (d 6 rfl)) r_) b_ i_,
  fun f s W c d i j a ha => opr rfl rfl (by simp [go_sem]),
  fun f s W c d i j a ha => opv rfl rfl (by simp [go_sem, ha.e 1 k1_1]) rfl,
  fun f s W c d i j a ha => opv rfl rfl (by simp [go_sem, ha.e 12 (d 9 rfl), cb br1_0 c 4]) rfl,
  fun f s W c d i j a ha => by have k := bwt fB1 c; obtain ⟨v_, W_, r_, b_, i_⟩ := clone_run 22 W (s 8) (a3) (c3) (b.bottom) ((h3.below k (Nat.le_refl _))) (n3) (d 8 rfl).2 W1.heap.size (i 8 rfl) c.size; exact opDo_value rfl rfl (run_appendOp (ha.v 11 (d 8 rfl).1) (ha.v 13 (d 10 rfl)) r_) b_ i_,
  fun f s W c d i j a ha => opv rfl rfl (by simp [go_sem, ha.e 1 k1_1]) rfl, trivial⟩ ?_
 intro f2 s2 W2 hB2 g2 hg2 z2
 have fB2 := hB2.f fB1
 have b2_0 := hB2.b br1_0
 have b2_1 := hB2.b br1_1
 obtain ⟨r2_0, br2_0⟩ := hB2.is 0
 have lr2_0 := hB2.lr 0 br2_0
 obtain ⟨g1', c2', r2_3, q3', q5', q4'⟩ := hB2.is 3
 obtain ⟨r2_4, br2_4⟩ := hB2.is 4
 have lr2_4 := hB2.lr 4 br2_4
 obtain ⟨g6', c7', r2_7, q8', q10', q9'⟩ := hB2.is 7
 obtain ⟨r2_8, br2_8⟩ := hB2.is 8
 have lr2_8 := hB2.lr 8 br2_8
 obtain ⟨g11', c12', r2_11, q13', q15', q14'⟩ := hB2.is 11
 have ne2_0_4 : s2 0 ≠ s2 4 := hB2.ne 0 4 (by decide) (by decide) (by decide) (fun _ _ _ h => ltb h.2) (fun _ _ _ h => ltb h.2)
 have ne2_0_8 : s2 0 ≠ s2 8 := hB2.ne 0 8 (by decide) (by decide) (by decide) (fun _ _ _ h => ltb h.2) (fun _ _ _ h => ltb h.2)
 have ne2_4_8 : s2 4 ≠ s2 8 := hB2.ne 4 8 (by decide) (by decide) (by decide) (fun _ _ _ h => ltb h.2) (fun _ _ _ h => ltb h.2)
 have k2_1 := kt hg2 1 k1_1
 have k2_6 := kt hg2 6 r2_3
 have k2_15 := kt hg2 15 (hB2.is 12)
 obtain ⟨W3, hW3⟩ : ∃ W', W' = W2.setRow (s1 0) #[.int .i64 b.tab, .slice (some ⟨g1', 0, none⟩) ((b.panels).length) (c2'), .int .i64 b.height, .slice a2 (b.top.length) c2, .slice a3 (b.bottom.length) c3, .int .i64 b.slot, .bool b.isOpen] := ⟨_, rfl⟩
 refine tsk (o := _) rfl ⟨rfl, rfl⟩ (run_seg hW3 (fr_ev k2_15) (fr_ev k2_6) b2_0 rfl rfl rfl rfl) ?_
 obtain ⟨fB3, nb3, ot3, z3⟩ := sgf hW3 fB2 b2_0 (by omega)
 clear hW3
 have b3_1 := ot3 _ _ (by omega) b2_1
 have q16' := (q3'.other ot3 q4' (by omega) z3)
 have q17' := Nat.lt_of_lt_of_le q4' z3
 have q18' := (q8'.other ot3 q9' (by omega) z3)
 have q19' := Nat.lt_of_lt_of_le q9' z3
 have q20' := (q13'.other ot3 q14' (by omega) z3)
 have q21' := Nat.lt_of_lt_of_le q14' z3
 refine tail_value (o := _) rfl rfl rfl (v := .pointer (some ⟨(s1 0), 3, none⟩)) (by simp [go_sem, frv 19 k2_1]) ?_
 generalize hg4 : upd g2 16 (.pointer (some ⟨(s1 0), 3, none⟩)) = g4
 have k4_1 := ku hg4 1 k2_1
 have k4_10 := ku hg4 10 (kt hg2 10 r2_7)
 have k4_16 := kt hg4 16 (upd_same _ _ _)
 obtain ⟨W5, hW5⟩ : ∃ W', W' = W3.setRow (s1 0) #[.int .i64 b.tab, .slice (some ⟨g1', 0, none⟩) ((b.panels).length) (c2'), .int .i64 b.height, .slice (some ⟨g6', 0, none⟩) ((b.top).length) (c7'), .slice a3 (b.bottom.length) c3, .int .i64 b.slot, .bool b.isOpen] := ⟨_, rfl⟩
 refine tsk (o := _) rfl ⟨rfl, rfl⟩ (run_seg hW5 (fr_ev k4_16) (fr_ev k4_10) nb3 rfl rfl rfl rfl) ?_
 obtain ⟨fB5, nb5, ot5, z5⟩ := sgf hW5 fB3 nb3 (by omega)
 clear hW5
 have b5_1 := ot5 _ _ (by omega) b3_1
 have q22' := (q16'.other ot5 q17' (by omega) z5)
 have q23' := Nat.lt_of_lt_of_le q17' z5
 have q24' := (q18'.other ot5 q19' (by omega) z5)
 have q25' := Nat.lt_of_lt_of_le q19' z5
 have q26' := (q20'.other ot5 q21' (by omega) z5)
 have q27' := Nat.lt_of_lt_of_le q21' z5
 refine tail_value (o := _) rfl rfl rfl (v := .pointer (some ⟨(s1 0), 4, none⟩)) (by simp [go_sem, frv 19 k4_1]) ?_
 generalize hg6 : upd g4 17 (.pointer (some ⟨(s1 0), 4, none⟩)) = g6
 have k6_1 := ku hg6 1 k4_1
 have k6_14 := ku hg6 14 (ku hg4 14 (kt hg2 14 r2_11))
 have k6_17 := kt hg6 17 (upd_same _ _ _)
 obtain ⟨W7, hW7⟩ : ∃ W', W' = W5.setRow (s1 0) #[.int .i64 b.tab, .slice (some ⟨g1', 0, none⟩) ((b.panels).length) (c2'), .int .i64 b.height, .slice (some ⟨g6', 0, none⟩) ((b.top).length) (c7'), .slice (some ⟨g11', 0, none⟩) ((b.bottom).length) (c12'), .int .i64 b.slot, .bool b.isOpen] := ⟨_, rfl⟩
 refine tsk (o := _) rfl ⟨rfl, rfl⟩ (run_seg hW7 (fr_ev k6_17) (fr_ev k6_14) nb5 rfl rfl rfl rfl) ?_
 obtain ⟨fB7, nb7, ot7, z7⟩ := sgf hW7 fB5 nb5 (by omega)
 clear hW7
 have b7_1 := ot7 _ _ (by omega) b5_1
 have q28' := (q22'.other ot7 q23' (by omega) z7)
 have q29' := Nat.lt_of_lt_of_le q23' z7
 have q30' := (q24'.other ot7 q25' (by omega) z7)
 have q31' := Nat.lt_of_lt_of_le q25' z7
 have q32' := (q26'.other ot7 q27' (by omega) z7)
 have q33' := Nat.lt_of_lt_of_le q27' z7
 refine wpe ?_
 refine hK2 _ _ ?_
 refine wp_seq_k fun K3 hK3 => ?_
 refine ry 1 [(18, 0)] [[], [0]] (rel [is (.agg #[.int .i64 b.tab, .slice (some ⟨g1', 0, none⟩) ((b.panels).length) (c2'), .int .i64 b.height, .slice (some ⟨g6', 0, none⟩) ((b.top).length) (c7'), .slice (some ⟨g11', 0, none⟩) ((b.bottom).length) (c12'), .int .i64 b.slot, .bool b.isOpen])])
  ⟨fun f s W c d i j a ha => opv rfl rfl (by simp [go_sem, ha.e 1 k6_1, cb nb7 c 0, cb nb7 c 1, cb nb7 c 2, cb nb7 c 3, cb nb7 c 4, cb nb7 c 5, cb nb7 c 6]) rfl, trivial⟩ ?_
 intro f8 s8 W8 hB8 g8 hg8 z8
 have fB8 := hB8.f fB7
 have b8_1 := hB8.b b7_1
 have q34' := q28'.bw hB8
 have q35' := (hB8.lt q29')
 have q36' := q30'.bw hB8
 have q37' := (hB8.lt q31')
 have q38' := q32'.bw hB8
 have q39' := (hB8.lt q33')
 have k8_2 := kt hg8 2 (ku hg6 2 (ku hg4 2 (kt hg2 2 (kt hg1 2 r1_1))))
 have k8_18 := kt hg8 18 (hB8.is 0)
 obtain ⟨W9, hW9⟩ : ∃ W', W' = W8.setRow (s1 1) #[.int .i64 b.tab, .slice (some ⟨g1', 0, none⟩) ((b.panels).length) (c2'), .int .i64 b.height, .slice (some ⟨g6', 0, none⟩) ((b.top).length) (c7'), .slice (some ⟨g11', 0, none⟩) ((b.bottom).length) (c12'), .int .i64 b.slot, .bool b.isOpen] := ⟨_, rfl⟩
 refine tsk (o := _) rfl ⟨rfl, rfl⟩ (run_seg hW9 (fr_ev k8_2) (fr_ev k8_18) b8_1 rfl rfl rfl rfl) ?_
 obtain ⟨fB9, nb9, ot9, z9⟩ := sgf hW9 fB8 b8_1 (by omega)
 clear hW9
 have q40' := (q34'.other ot9 q35' (by omega) z9)
 have q41' := Nat.lt_of_lt_of_le q35' z9
 have q42' := (q36'.other ot9 q37' (by omega) z9)
 have q43' := Nat.lt_of_lt_of_le q37' z9
 have q44' := (q38'.other ot9 q39' (by omega) z9)
 have q45' := Nat.lt_of_lt_of_le q39' z9
 refine wpe ?_
 refine hK3 _ _ ?_
 refine wp_ret ?_
 refine leave_gen (v := .agg #[.int .i64 b.tab, .slice (some ⟨g1', 0, none⟩) ((b.panels).length) (c2'), .int .i64 b.height, .slice (some ⟨g6', 0, none⟩) ((b.top).length) (c7'), .slice (some ⟨g11', 0, none⟩) ((b.bottom).length) (c12'), .int .i64 b.slot, .bool b.isOpen]) (.inr rfl) (by simp [results, Tryz.results48, go_sem, frv 19 k8_2, cl nb9 0, cl nb9 1, cl nb9 2, cl nb9 3, cl nb9 4, cl nb9 5, cl nb9 6]) ?_
 exact ⟨_, rfl, ⟨_, _, _, _, _, _, rfl, ⟨q40', by omega, q41'⟩, ⟨q42', by omega, q43'⟩, ⟨q44', by omega, q45'⟩⟩, fB9⟩
open Go.RowKit
theorem own_any (a1 a2 a3 : Option Addr) (c1 c2 c3 : Nat) (b : Bl) (w : World) (h1 : Ii w a1 b.panels.length c1 b.panels) (h2 : Ii w a2 b.top.length c2 b.top) (h3 : Ii w a3 b.bottom.length c3 b.bottom) (n1 : b.panels.length ≤ 1000) (n2 : b.top.length ≤ 1000) (n3 : b.bottom.length ≤ 1000) :
  Calls Tryz.prog 13 #[.agg #[.int .i64 b.tab, .slice a1 (b.panels.length) c1, .int .i64 b.height, .slice a2 (b.top.length) c2, .slice a3 (b.bottom.length) c3, .int .i64 b.slot, .bool b.isOpen]] w (NwBlkP b w) := by
 refine calls_fr Tryz.func13 Tryz.ntmps13 rfl rfl fun g hg => ?_
 have k0 : g 0 = .agg #[.int .i64 b.tab, .slice a1 (b.panels.length) c1, .int .i64 b.height, .slice a2 (b.top.length) c2, .slice a3 (b.bottom.length) c3, .int .i64 b.slot, .bool b.isOpen] := hg 0
 clear hg
 have fB0 : Below w.heap.size w w := Below.refl _ _
 refine rw_ 2 [(1, 0), (2, 1)] [[], []] (rel [bx 0 #[.int .i64 b.tab, .slice a1 (b.panels.length) c1, .int .i64 b.height, .slice a2 (b.top.length) c2, .slice a3 (b.bottom.length) c3, .int .i64 b.slot, .bool b.isOpen] 24, bx 1 #[.int .i64 0, .slice none 0 0, .int .i64 0, .slice none 0 0, .slice none 0 0, .int .i64 0, .bool false] 24])
  ⟨fun f s W c d i j a ha => opb rfl rfl (by simp [go_sem, ha.e 0 k0]),
  fun f s W c d i j a ha => opb rfl rfl (by simp [go_sem]), trivial⟩ ?_
 intro f1 s1 W1 hB1 g1 hg1 z1
 have fB1 := hB1.f fB0
 obtain ⟨r1_0, br1_0⟩ := hB1.is 0
 have lr1_0 := hB1.lr 0 br1_0
 obtain ⟨r1_1, br1_1⟩ := hB1.is 1
 have lr1_1 := hB1.lr 1 br1_1
 have ne1_0_1 : s1 0 ≠ s1 1 := hB1.ne 0 1 (by decide) (by decide) (by decide) (fun _ _ _ h => ltb h.2) (fun _ _ _ h => ltb h.2)
 have k1_1 := kt hg1 1 r1_0
 refine wp_seq_k fun K2 hK2 => ?_
 refine rz 2 [(3, 0), (4, 1)] [[], [0], [0, 1]] (rel [is (.agg #[.int .i64 b.tab, .slice a1 (b.panels.length) c1, .int .i64 b.height, .slice a2 (b.top.length) c2, .slice a3 (b.bottom.length) c3, .int .i64 b.slot, .bool b.isOpen]), fun v s W => NwBlk (s 1) (b) v W])
  ⟨is_k, ⟨fun v k W W' hb h => h.below hb, fun v s s' W e h => by have h' : NwBlk (s 1) (b) v W := h; show NwBlk (s' 1) (b) v W; rw [← e 1 (by simp)]; exact h'⟩, trivial⟩
  ⟨fun f s W c d i j a ha => opv rfl rfl (by simp [go_sem, ha.e 1 k1_1, cb br1_0 c 0, cb br1_0 c 1, cb br1_0 c 2, cb br1_0 c 3, cb br1_0 c 4, cb br1_0 c 5, cb br1_0 c 6]) rfl,
  fun f s W c d i j a ha => by have l := bwt fB1 c; exact opd rfl rfl (by simp [go_sem, ha.e 3 (d 0 rfl)]) (copy_any a1 a2 a3 c1 c2 c3 b W (h1.below l (Nat.le_refl _)) (h2.below l (Nat.le_refl _)) (h3.below l (Nat.le_refl _)) n1 n2 n3) (fun e W' h => by obtain ⟨v, e1, h1, h2⟩ := h; exact ⟨v, e1, h2, (show NwBlk (upd s 1 W.heap.size 1) (b) v W' from by rw [upd_at]; exact h1)⟩), trivial⟩ ?_
 intro f2 s2 W2 hB2 g2 hg2 z2
 have fB2 := hB2.f fB1
 have b2_1 := hB2.b br1_1
 obtain ⟨g1', c4', g2', c5', g3', c6', r2_1, ⟨q7', q9', q8'⟩, ⟨q10', q12', q11'⟩, ⟨q13', q15', q14'⟩⟩ := hB2.is 1
 have la2_1 := hB2.from' 1 (by decide)
 have k2_2 := kt hg2 2 (kt hg1 2 r1_1)
 have k2_4 := kt hg2 4 r2_1
 obtain ⟨W3, hW3⟩ : ∃ W', W' = W2.setRow (s1 1) #[.int .i64 b.tab, .slice (some ⟨g1', 0, none⟩) (b.panels.length) c4', .int .i64 b.height, .slice (some ⟨g2', 0, none⟩) (b.top.length) c5', .slice (some ⟨g3', 0, none⟩) (b.bottom.length) c6', .int .i64 b.slot, .bool b.isOpen] := ⟨_, rfl⟩
 refine tsk (o := _) rfl ⟨rfl, rfl⟩ (run_seg hW3 (fr_ev k2_2) (fr_ev k2_4) b2_1 rfl rfl rfl rfl) ?_
 obtain ⟨fB3, nb3, ot3, z3⟩ := sgf hW3 fB2 b2_1 (by omega)
 clear hW3
 have q16' := (q7'.other ot3 q8' (by omega) z3)
 have q17' := Nat.lt_of_lt_of_le q8' z3
 have q18' := (q10'.other ot3 q11' (by omega) z3)
 have q19' := Nat.lt_of_lt_of_le q11' z3
 have q20' := (q13'.other ot3 q14' (by omega) z3)
 have q21' := Nat.lt_of_lt_of_le q14' z3
 refine wpe ?_
 refine hK2 _ _ ?_
 refine wp_ret ?_
 refine leave_gen (v := .agg #[.int .i64 b.tab, .slice (some ⟨g1', 0, none⟩) (b.panels.length) c4', .int .i64 b.height, .slice (some ⟨g2', 0, none⟩) (b.top.length) c5', .slice (some ⟨g3', 0, none⟩) (b.bottom.length) c6', .int .i64 b.slot, .bool b.isOpen]) (.inr rfl) (by simp [results, Tryz.results13, go_sem, frv 5 k2_2, cl nb3 0, cl nb3 1, cl nb3 2, cl nb3 3, cl nb3 4, cl nb3 5, cl nb3 6]) ?_
 exact ⟨_, rfl, ⟨_, _, _, _, _, _, rfl, ⟨q16', by omega, q17'⟩, ⟨q18', by omega, q19'⟩, ⟨q20', by omega, q21'⟩⟩, fB3⟩
open Go.RowKit
theorem indexFunc_rows1 (a0 : Option Addr) (n0 c0 : Nat) (p0 : Bool) (D1 D2 D3 D4 D5 gq cap : Nat) (w : World) (hg : gq < w.heap.size) (e0 : w.cell? ⟨gq, 0, none⟩ = some (.slice a0 n0 c0)) (hp0 : ∀ W, Below w.heap.size w W → Calls Tryz.prog 100 #[.slice a0 n0 c0, .pointer (some ⟨D1, 0, none⟩), .pointer (some ⟨D2, 0, none⟩), .pointer (some ⟨D3, 0, none⟩), .pointer (some ⟨D4, 0, none⟩), .pointer (some ⟨D5, 0, none⟩)] W fun e W' => e = .returned (.bool p0) ∧ Below W.heap.size W W') :
  Calls Tryz.prog 115 #[.slice (some ⟨gq, 0, none⟩) 1 cap, .func (.func 100) #[] #[.pointer (some ⟨D1, 0, none⟩), .pointer (some ⟨D2, 0, none⟩), .pointer (some ⟨D3, 0, none⟩), .pointer (some ⟨D4, 0, none⟩), .pointer (some ⟨D5, 0, none⟩)]] w (fun e w' => e = .returned (.int .i64 (if p0 = true then 0 else -1)) ∧ Below w.heap.size w w') := by
 refine calls_fr Tryz.func115 Tryz.ntmps115 rfl rfl fun g hg => ?_
 have k0 : g 0 = .slice (some ⟨gq, 0, none⟩) 1 cap := hg 0
 have k1 : g 1 = .func (.func 100) #[] #[.pointer (some ⟨D1, 0, none⟩), .pointer (some ⟨D2, 0, none⟩), .pointer (some ⟨D3, 0, none⟩), .pointer (some ⟨D4, 0, none⟩), .pointer (some ⟨D5, 0, none⟩)] := hg 1
 clear hg
 have fB0 : Below w.heap.size w w := Below.refl _ _
 refine rw_ 1 [(4, 0)] [[]] (rel [iI 0])
  ⟨fun f s W b c d h i a => opz, trivial⟩ ?_
 intro f1 s1 W1 hB1 g1 hg1 z1
 have k1_0 := kt hg1 0 k0
 refine wp_seq_k fun K2 hK2 => ?_
 refine rw_ 3 [(6, 0), (7, 1), (8, 2)] [[], [0], []] (rel [is (.slice (some ⟨gq, 0, none⟩) 1 cap), iI 1, iI 0])
  ⟨fun f s W b c d h i a => opm (a.v 0 k1_0),
  fun f s W b c d h i a => opv rfl rfl (by simp [go_sem, a.e 6 (c 0 rfl)]) rfl,
  fun f s W b c d h i a => opz, trivial⟩ ?_
 intro f2 s2 W2 hB2 g2 hg2 z2
 have k2_7 := kt hg2 7 (hB2.is 1)
 have k2_8 := kt hg2 8 (hB2.is 2)
 refine wp_block ?_
 refine wp_loop_rounds 2 ?_
 rw [rounds_succ]
 refine rw_ 1 [(9, 0)] [[]] (rel [iB true])
  ⟨fun f s W b c d h i a => opv rfl rfl (by simp [go_sem, a.e 8 k2_8, a.e 7 k2_7]) rfl, trivial⟩ ?_
 intro f3 s3 W3 hB3 g3 hg3 z3
 have k3_8 := kt hg3 8 k2_8
 have k3_9 := kt hg3 9 (hB3.is 0)
 refine wp_seq_k fun K5 hK5 => ?_
 refine wp_cond_true ((fr_eval rfl).trans k3_9) ?_
 refine wp_skip ?_
 refine hK5 _ _ ?_
 refine wp_seq_k fun K7 hK7 => ?_
 refine wp_block ?_
 refine rw_ 2 [(10, 0), (5, 1)] [[], [0]] (rel [iI 0, iI 0])
  ⟨fun f s W b c d h i a => opm (a.v 8 k3_8),
  fun f s W b c d h i a => opm (a.v 10 (c 0 rfl)), trivial⟩ ?_
 intro f4 s4 W4 hB4 g4 hg4 z4
 have fB4 := hB4.f (hB3.f (hB2.f (hB1.f fB0)))
 have k4_0 := kt hg4 0 (kt hg3 0 (kt hg2 0 k1_0))
 have k4_1 := kt hg4 1 (kt hg3 1 (kt hg2 1 (kt hg1 1 k1)))
 have k4_5 := kt hg4 5 (hB4.is 1)
 refine rw_ 6 [(11, 0), (12, 1), (13, 2), (14, 3), (15, 4), (16, 5)] [[], [], [], [1, 2], [3], [0, 4]] (rel [is (.func (.func 100) #[] #[.pointer (some ⟨D1, 0, none⟩), .pointer (some ⟨D2, 0, none⟩), .pointer (some ⟨D3, 0, none⟩), .pointer (some ⟨D4, 0, none⟩), .pointer (some ⟨D5, 0, none⟩)]), is (.slice (some ⟨gq, 0, none⟩) 1 cap), iI 0, is (.pointer (some ⟨gq, 0, none⟩)), is (.slice a0 n0 c0), iB p0])
  ⟨fun f s W b c d h i a => opm (a.v 1 k4_1),
  fun f s W b c d h i a => opm (a.v 0 k4_0),
  fun f s W b c d h i a => opm (a.v 5 k4_5),
  fun f s W b c d h i a => opv rfl rfl (by simp [go_sem, a.e 12 (c 1 rfl), a.e 13 (c 2 rfl)]) rfl,
  fun f s W b c d h i a => by have j := bwt fB4 b; have u0 : W.cell? ⟨gq, 0, none⟩ = some (.slice a0 n0 c0) := (j.cell (p := ⟨gq, 0, none⟩) hg).trans e0; exact opv rfl rfl (by simp [go_sem, a.e 14 (c 3 rfl), u0]) rfl,
  fun f s W b c d h i a => by have j := bwt fB4 b; exact opc rfl rfl (by simp [go_sem, a.e 15 (c 4 rfl), a.e 11 (c 0 rfl)]) (hp0 W j), trivial⟩ ?_
 intro f5 s5 W5 hB5 g5 hg5 z5
 have fB5 := hB5.f fB4
 have k5_8 := kt hg5 8 (kt hg4 8 k3_8)
 have k5_5 := kt hg5 5 k4_5
 have k5_16 := kt hg5 16 (hB5.is 5)
 refine wp_cond_split (t := p0) ((fr_eval rfl).trans k5_16) (fun hc10 => ?_) (fun hc10 => ?_)
 ·
  have hc10' := hc10; try simp only [ba] at hc10'
  refine rw_ 2 [(17, 0), (4, 1)] [[], [0]] (rel [iI 0, iI 0])
   ⟨fun f s W b c d h i a => opm (a.v 5 k5_5),
  fun f s W b c d h i a => opm (a.v 17 (c 0 rfl)), trivial⟩ ?_
  intro f6 s6 W6 hB6 g6 hg6 z6
  have fB6 := hB6.f fB5
  have k6_4 := kt hg6 4 (hB6.is 1)
  refine wp_ret ?_
  refine inBlock_ret (then_ret (then_ret (inBlock_ret (then_ret ?_))))
  refine leave_one (N := 19) (.inr rfl) Tryz.results115 rfl k6_4 ?_
  exact ⟨by simp [hc10], fB6⟩
 ·
  have hc10' := hc10; try simp only [ba] at hc10'
  refine wp_skip ?_
  refine ibn ?_
  refine hK7 _ _ ?_
  refine ry 2 [(18, 0), (8, 1)] [[], [0]] (rel [iI 1, iI 1])
   ⟨fun f s W b c d h i a => opv rfl rfl (by simp [go_sem, a.e 8 ((h 1 8 rfl rfl).trans k5_8), IntWalk.i64_in (1) (by omega)]) rfl,
  fun f s W b c d h i a => opm (a.v 18 (c 0 rfl)), trivial⟩ ?_
  intro f7 s7 W7 hB7 g7 hg7 z7
  refine wpe ?_
  have k7_7 := kt hg7 7 (kt hg5 7 (kt hg4 7 (kt hg3 7 k2_7)))
  have k7_8 := kt hg7 8 (hB7.is 1)
  refine then_normal ?_
  rw [rounds_succ]
  refine rw_ 1 [(9, 0)] [[]] (rel [iB false])
   ⟨fun f s W b c d h i a => opv rfl rfl (by simp [go_sem, a.e 8 k7_8, a.e 7 k7_7]) rfl, trivial⟩ ?_
  intro f8 s8 W8 hB8 g8 hg8 z8
  have k8_9 := kt hg8 9 (hB8.is 0)
  refine wp_seq_k fun K13 hK13 => ?_
  refine wp_cond_false ((fr_eval rfl).trans k8_9) ?_
  refine wp_exit ?_
  refine then_exit ?_
  refine then_exit ?_
  refine inBlock_at ?_
  refine hK2 _ _ ?_
  refine rw_ 1 [(4, 0)] [[]] (rel [iI (-1)])
   ⟨fun f s W b c d h i a => opz, trivial⟩ ?_
  intro f9 s9 W9 hB9 g9 hg9 z9
  have fB9 := hB9.f (hB8.f (hB7.f fB5))
  have k9_4 := kt hg9 4 (hB9.is 0)
  refine wp_ret ?_
  refine leave_one (N := 19) (.inr rfl) Tryz.results115 rfl k9_4 ?_
  exact ⟨by simp [hc10], fB9⟩
theorem containsFunc_rows1 (a0 : Option Addr) (n0 c0 : Nat) (p0 : Bool) (D1 D2 D3 D4 D5 gq cap : Nat) (w : World) (hg : gq < w.heap.size) (e0 : w.cell? ⟨gq, 0, none⟩ = some (.slice a0 n0 c0)) (hp0 : ∀ W, Below w.heap.size w W → Calls Tryz.prog 100 #[.slice a0 n0 c0, .pointer (some ⟨D1, 0, none⟩), .pointer (some ⟨D2, 0, none⟩), .pointer (some ⟨D3, 0, none⟩), .pointer (some ⟨D4, 0, none⟩), .pointer (some ⟨D5, 0, none⟩)] W fun e W' => e = .returned (.bool p0) ∧ Below W.heap.size W W') :
  Calls Tryz.prog 102 #[.slice (some ⟨gq, 0, none⟩) 1 cap, .func (.func 100) #[] #[.pointer (some ⟨D1, 0, none⟩), .pointer (some ⟨D2, 0, none⟩), .pointer (some ⟨D3, 0, none⟩), .pointer (some ⟨D4, 0, none⟩), .pointer (some ⟨D5, 0, none⟩)]] w (fun e w' => e = .returned (.bool (p0)) ∧ Below w.heap.size w w') := by
 refine calls_fr Tryz.func102 Tryz.ntmps102 rfl rfl fun g hg => ?_
 have k0 : g 0 = .slice (some ⟨gq, 0, none⟩) 1 cap := hg 0
 have k1 : g 1 = .func (.func 100) #[] #[.pointer (some ⟨D1, 0, none⟩), .pointer (some ⟨D2, 0, none⟩), .pointer (some ⟨D3, 0, none⟩), .pointer (some ⟨D4, 0, none⟩), .pointer (some ⟨D5, 0, none⟩)] := hg 1
 clear hg
 have fB0 : Below w.heap.size w w := Below.refl _ _
 refine rw_ 1 [(4, 0)] [[]] (rel [iB false])
  ⟨fun f s W b c d i j a => opz, trivial⟩ ?_
 intro f1 s1 W1 hB1 g1 hg1 z1
 have fB1 := hB1.f fB0
 have k1_0 := kt hg1 0 k0
 have k1_1 := kt hg1 1 k1
 refine rw_ 5 [(5, 0), (6, 1), (7, 2), (8, 3), (4, 4)] [[], [], [0, 1], [2], [3]] (rel [is (.slice (some ⟨gq, 0, none⟩) 1 cap), is (.func (.func 100) #[] #[.pointer (some ⟨D1, 0, none⟩), .pointer (some ⟨D2, 0, none⟩), .pointer (some ⟨D3, 0, none⟩), .pointer (some ⟨D4, 0, none⟩), .pointer (some ⟨D5, 0, none⟩)]), iI (if p0 = true then 0 else -1), iB (decide (0 ≤ (if p0 = true then 0 else -1))), iB (decide (0 ≤ (if p0 = true then 0 else -1)))])
  ⟨fun f s W b c d i j a => opm (a.v 0 k1_0),
  fun f s W b c d i j a => opm (a.v 1 k1_1),
  fun f s W b c d i j a => by have k := bwt fB1 b; exact opc (args := #[.slice (some ⟨gq, 0, none⟩) 1 cap, .func (.func 100) #[] #[.pointer (some ⟨D1, 0, none⟩), .pointer (some ⟨D2, 0, none⟩), .pointer (some ⟨D3, 0, none⟩), .pointer (some ⟨D4, 0, none⟩), .pointer (some ⟨D5, 0, none⟩)]]) rfl rfl (by simp [go_sem, a.e 5 (c 0 rfl), a.e 6 (c 1 rfl)]) (indexFunc_rows1 _ _ _ p0 D1 D2 D3 D4 D5 gq cap W (Nat.lt_of_lt_of_le hg k.size) ((k.cell (p := ⟨gq, 0, none⟩) hg).trans e0) (fun W' h => hp0 W' (bwt k h))),
  fun f s W b c d i j a => opv rfl rfl (by simp [go_sem, a.e 7 (c 2 rfl)]) rfl,
  fun f s W b c d i j a => opm (a.v 8 (c 3 rfl)), trivial⟩ ?_
 intro f2 s2 W2 hB2 g2 hg2 z2
 have fB2 := hB2.f fB1
 have k2_4 := kt hg2 4 (hB2.is 4)
 refine wp_ret ?_
 refine leave_one (N := 9) (.inr rfl) Tryz.results102 rfl k2_4 ?_
 exact ⟨by revert hp0; cases p0 <;> simp, fB2⟩
open Go.RowKit
theorem closesP_0_1 (x0 x1 x2 x3 x4 x5 x6 : Value) (l1 h1 l2 h2 l3 h3 l4 h4 l5 h5 : Int) (wo : Bool) (hw : WishIn ⟨(l1, h1), (l2, h2), (l3, h3), (l4, h4), (l5, h5), wo⟩) (p c off v0 v1 : Int) (q0 o0 m0 gq cap : Nat) (D1 D2 D3 D4 D5 : Nat) (w : World) (hgq : gq < w.heap.size) (e0 : w.cell? ⟨gq, 0, none⟩ = some (.slice (some ⟨q0, o0, none⟩) 2 m0)) (hI0 : Ii w (some ⟨q0, o0, none⟩) 2 m0 [v0, v1]) (hv0 : 0 ≤ v0) (hv0' : v0 ≤ 3000) (hv1 : 0 ≤ v1) (hv1' : v1 ≤ 3000) (hp1 : 0 ≤ p) (hp2 : p ≤ 3000) (hc1 : 0 ≤ c) (hc2 : c ≤ 100000) (ho1 : 0 ≤ off) (ho2 : off ≤ 5) (u1 : w.heap[D1]? = some (.cells #[.int .i64 c] 3 (0, 0))) (u2 : w.heap[D2]? = some (.cells #[.int .i64 l1, .int .i64 h1, .int .i64 l2, .int .i64 h2, .int .i64 l3, .int .i64 h3, .int .i64 l4, .int .i64 h4, .int .i64 l5, .int .i64 h5, .bool wo] 43 (0, 0))) (u3 : w.heap[D3]? = some (.cells #[.int .i64 0] 3 (0, 0))) (u4 : w.heap[D4]? = some (.cells #[x0, x1, x2, x3, x4, x5, x6, .int .i64 off] 127 (0, 0))) (u5 : w.heap[D5]? = some (.cells #[.slice (some ⟨gq, 0, none⟩) 1 cap] 152 (0, 0))) :
  Calls Tryz.prog 98 #[.int .i64 p, .pointer (some ⟨D1, 0, none⟩), .pointer (some ⟨D2, 0, none⟩), .pointer (some ⟨D3, 0, none⟩), .pointer (some ⟨D4, 0, none⟩), .pointer (some ⟨D5, 0, none⟩)] w (fun e w' => e = .returned (.bool (okP ⟨(l1, h1), (l2, h2), (l3, h3), (l4, h4), (l5, h5), wo⟩ c off p [(v0, v1)] 0)) ∧ Below w.heap.size w w') := by
 have tb : -10000 ≤ (targetOf ⟨(l1, h1), (l2, h2), (l3, h3), (l4, h4), (l5, h5), wo⟩ 0).1 ∧ (targetOf ⟨(l1, h1), (l2, h2), (l3, h3), (l4, h4), (l5, h5), wo⟩ 0).1 ≤ 10000 ∧ -10000 ≤ (targetOf ⟨(l1, h1), (l2, h2), (l3, h3), (l4, h4), (l5, h5), wo⟩ 0).2 ∧ (targetOf ⟨(l1, h1), (l2, h2), (l3, h3), (l4, h4), (l5, h5), wo⟩ 0).2 ≤ 10000 := by have h := targetOf_in hw 0; omega
 refine calls_fr Tryz.func98 Tryz.ntmps98 rfl rfl fun g hg => ?_
 have k0 : g 0 = .int .i64 p := hg 0
 have k1 : g 1 = .pointer (some ⟨D1, 0, none⟩) := hg 1
 have k2 : g 2 = .pointer (some ⟨D2, 0, none⟩) := hg 2
 have k3 : g 3 = .pointer (some ⟨D3, 0, none⟩) := hg 3
 have k4 : g 4 = .pointer (some ⟨D4, 0, none⟩) := hg 4
 have k5 : g 5 = .pointer (some ⟨D5, 0, none⟩) := hg 5
 clear hg
 have fB0 : Below w.heap.size w w := Below.refl _ _
 have lt_D1 := ltb u1
 have lt_D2 := ltb u2
 have lt_D3 := ltb u3
 have lt_D4 := ltb u4
 have lt_D5 := ltb u5
 refine rw_ 2 [(6, 0), (7, 1)] [[], []] (rel [bx 0 #[.int .i64 p] 3, iB false])
  ⟨fun f s W d i j k l a => opb rfl rfl (by simp [go_sem, a.e 0 k0]),
  fun f s W d i j k l a => opz, trivial⟩ ?_
 intro f1 s1 W1 hB1 g1 hg1 z1
 have b1_0 := hB1.b u1
 have b1_1 := hB1.b u2
 have b1_2 := hB1.b u3
 obtain ⟨r1_0, br1_0⟩ := hB1.is 0
 have lr1_0 := hB1.lr 0 br1_0
 have k1_1 := kt hg1 1 k1
 have k1_2 := kt hg1 2 k2
 have k1_3 := kt hg1 3 k3
 have k1_6 := kt hg1 6 r1_0
 refine wp_seq_k fun K2 hK2 => ?_
 refine rw_ 7 [(9, 0), (10, 1), (11, 2), (12, 3), (13, 4), (14, 5), (15, 6)] [[], [], [], [], [2, 3], [0, 1, 4], [5]] (rel [iI p, iI c, is (.agg #[.int .i64 l1, .int .i64 h1, .int .i64 l2, .int .i64 h2, .int .i64 l3, .int .i64 h3, .int .i64 l4, .int .i64 h4, .int .i64 l5, .int .i64 h5, .bool wo]), iI 0, is (.agg #[.int .i64 ((targetOf ⟨(l1, h1), (l2, h2), (l3, h3), (l4, h4), (l5, h5), wo⟩ 0).1), .int .i64 ((targetOf ⟨(l1, h1), (l2, h2), (l3, h3), (l4, h4), (l5, h5), wo⟩ 0).2)]), iB (isInOf p 1 c (targetOf ⟨(l1, h1), (l2, h2), (l3, h3), (l4, h4), (l5, h5), wo⟩ 0)), iB (!(isInOf p 1 c (targetOf ⟨(l1, h1), (l2, h2), (l3, h3), (l4, h4), (l5, h5), wo⟩ 0)))])
  ⟨fun f s W d i j k l a => opv rfl rfl (by simp [go_sem, a.e 6 k1_6, cb br1_0 d 0]) rfl,
  fun f s W d i j k l a => opv rfl rfl (by simp [go_sem, a.e 1 k1_1, cb b1_0 d 0]) rfl,
  fun f s W d i j k l a => opv rfl rfl (by simp [go_sem, a.e 2 k1_2, cb b1_1 d 0, cb b1_1 d 1, cb b1_1 d 2, cb b1_1 d 3, cb b1_1 d 4, cb b1_1 d 5, cb b1_1 d 6, cb b1_1 d 7, cb b1_1 d 8, cb b1_1 d 9, cb b1_1 d 10]) rfl,
  fun f s W d i j k l a => opv rfl rfl (by simp [go_sem, a.e 3 k1_3, cb b1_2 d 0]) rfl,
  fun f s W d i j k l a => opc rfl rfl (by simp [go_sem, a.e 11 (i 2 rfl), a.e 12 (i 3 rfl)]) (target_any l1 h1 l2 h2 l3 h3 l4 h4 l5 h5 wo 0 (by omega) W),
  fun f s W d i j k l a => opc (args := #[.int .i64 p, .int .i64 1, .int .i64 c, .agg #[.int .i64 ((targetOf ⟨(l1, h1), (l2, h2), (l3, h3), (l4, h4), (l5, h5), wo⟩ 0).1), .int .i64 ((targetOf ⟨(l1, h1), (l2, h2), (l3, h3), (l4, h4), (l5, h5), wo⟩ 0).2)]]) rfl rfl (by simp [go_sem, a.e 9 (i 0 rfl), a.e 10 (i 1 rfl), a.e 13 (i 4 rfl)]) (isIn_any p 1 c _ _ W (by omega) (by omega) (by omega) (by omega) hc1 hc2 tb.1 tb.2.1 tb.2.2.1 tb.2.2.2),
  fun f s W d i j k l a => opv rfl rfl (by simp [go_sem, a.e 14 (i 5 rfl)]) rfl, trivial⟩ ?_
 intro f2 s2 W2 hB2 g2 hg2 z2
 have fB2 := hB2.f (hB1.f fB0)
 have k2_1 := kt hg2 1 k1_1
 have k2_2 := kt hg2 2 k1_2
 have k2_3 := kt hg2 3 k1_3
 have k2_4 := kt hg2 4 (kt hg1 4 k4)
 have k2_6 := kt hg2 6 k1_6
 have k2_15 := kt hg2 15 (hB2.is 6)
 refine wp_cond_split (t := !(isInOf p 1 c (targetOf ⟨(l1, h1), (l2, h2), (l3, h3), (l4, h4), (l5, h5), wo⟩ 0))) ((fr_eval rfl).trans k2_15) (fun hc4 => ?_) (fun hc4 => ?_)
 ·
  have hc4' := hc4; try simp only [ba] at hc4'
  refine rw_ 1 [(7, 0)] [[]] (rel [iB false])
   ⟨fun f s W d i j k l a => opz, trivial⟩ ?_
  intro f3 s3 W3 hB3 g3 hg3 z3
  have fB3 := hB3.f fB2
  have k3_7 := kt hg3 7 (hB3.is 0)
  refine wp_ret ?_
  refine then_ret ?_
  refine leave_one (N := 21) (.inr rfl) Tryz.results98 rfl k3_7 ?_
  exact ⟨by have h' := hc4; simp at h'; simp [okP, h'], fB3⟩
 ·
  have hc4' := hc4; try simp only [ba] at hc4'
  refine wp_skip ?_
  refine hK2 _ _ ?_
  refine rw_ 2 [(16, 0), (8, 1)] [[], [0]] (rel [is (.func (.func 100) #[] #[.pointer (some ⟨D3, 0, none⟩), .pointer (some ⟨D4, 0, none⟩), .pointer (some ⟨(s1 0), 0, none⟩), .pointer (some ⟨D1, 0, none⟩), .pointer (some ⟨D2, 0, none⟩)]), is (.func (.func 100) #[] #[.pointer (some ⟨D3, 0, none⟩), .pointer (some ⟨D4, 0, none⟩), .pointer (some ⟨(s1 0), 0, none⟩), .pointer (some ⟨D1, 0, none⟩), .pointer (some ⟨D2, 0, none⟩)])])
   ⟨fun f s W d i j k l a => opv rfl rfl (by simp [go_sem, a.e 3 k2_3, a.e 4 k2_4, a.e 6 k2_6, a.e 1 k2_1, a.e 2 k2_2]) rfl,
  fun f s W d i j k l a => opm (a.v 16 (i 0 rfl)), trivial⟩ ?_
  intro f4 s4 W4 hB4 g4 hg4 z4
  have fB4 := hB4.f fB2
  have b4_0 := hB4.b (hB2.b b1_0)
  have b4_1 := hB4.b (hB2.b b1_1)
  have b4_2 := hB4.b (hB2.b b1_2)
  have b4_3 := hB4.b (hB2.b (hB1.b u4))
  have b4_4 := hB4.b (hB2.b (hB1.b u5))
  have b4_5 := hB4.b (hB2.b br1_0)
  have k4_5 := kt hg4 5 (kt hg2 5 (kt hg1 5 k5))
  have k4_8 := kt hg4 8 (hB4.is 1)
  refine rw_ 5 [(17, 0), (18, 1), (19, 2), (20, 3), (7, 4)] [[], [], [0, 1], [2], [3]] (rel [is (.slice (some ⟨gq, 0, none⟩) 1 cap), is (.func (.func 100) #[] #[.pointer (some ⟨D3, 0, none⟩), .pointer (some ⟨D4, 0, none⟩), .pointer (some ⟨(s1 0), 0, none⟩), .pointer (some ⟨D1, 0, none⟩), .pointer (some ⟨D2, 0, none⟩)]), iB (badF ⟨(l1, h1), (l2, h2), (l3, h3), (l4, h4), (l5, h5), wo⟩ c off p (v0, v1) 0), iB (!(badF ⟨(l1, h1), (l2, h2), (l3, h3), (l4, h4), (l5, h5), wo⟩ c off p (v0, v1) 0)), iB (!(badF ⟨(l1, h1), (l2, h2), (l3, h3), (l4, h4), (l5, h5), wo⟩ c off p (v0, v1) 0))])
   ⟨fun f s W d i j k l a => opv rfl rfl (by simp [go_sem, a.e 5 k4_5, cb b4_4 d 0]) rfl,
  fun f s W d i j k l a => opm (a.v 8 k4_8),
  fun f s W d i j k l a => by have m := bwt fB4 d; exact opc (args := #[.slice (some ⟨gq, 0, none⟩) 1 cap, .func (.func 100) #[] #[.pointer (some ⟨D3, 0, none⟩), .pointer (some ⟨D4, 0, none⟩), .pointer (some ⟨(s1 0), 0, none⟩), .pointer (some ⟨D1, 0, none⟩), .pointer (some ⟨D2, 0, none⟩)]]) rfl rfl (by simp [go_sem, a.e 17 (i 0 rfl), a.e 18 (i 1 rfl)]) (containsFunc_rows1 _ _ _ (badF ⟨(l1, h1), (l2, h2), (l3, h3), (l4, h4), (l5, h5), wo⟩ c off p (v0, v1) 0) D3 D4 _ D1 D2 gq cap W (Nat.lt_of_lt_of_le hgq m.size) ((m.cell (p := ⟨gq, 0, none⟩) hgq).trans e0) (fun W' hb' => closes3_0 x0 x1 x2 x3 x4 x5 x6 l1 h1 l2 h2 l3 h3 l4 h4 l5 h5 wo hw p c off v0 v1 q0 o0 m0 D3 D4 _ D1 D2 W' (hI0.below (bwt m hb') (Nat.le_refl _)) hv0 hv0' hv1 hv1' hp1 hp2 hc1 hc2 ho1 ho2 (bwb (bwb b4_2 d) hb') (bwb (bwb b4_3 d) hb') (bwb (bwb b4_5 d) hb') (bwb (bwb b4_0 d) hb') (bwb (bwb b4_1 d) hb'))),
  fun f s W d i j k l a => opv rfl rfl (by simp [go_sem, a.e 19 (i 2 rfl)]) rfl,
  fun f s W d i j k l a => opm (a.v 20 (i 3 rfl)), trivial⟩ ?_
  intro f5 s5 W5 hB5 g5 hg5 z5
  have fB5 := hB5.f fB4
  have k5_7 := kt hg5 7 (hB5.is 4)
  refine wp_ret ?_
  refine leave_one (N := 21) (.inr rfl) Tryz.results98 rfl k5_7 ?_
  exact ⟨by have h' := hc4; simp at h'; simp [okP, h'], fB5⟩
theorem closesP_1_1 (x0 x1 x2 x3 x4 x5 x6 : Value) (l1 h1 l2 h2 l3 h3 l4 h4 l5 h5 : Int) (wo : Bool) (hw : WishIn ⟨(l1, h1), (l2, h2), (l3, h3), (l4, h4), (l5, h5), wo⟩) (p c off v0 v1 : Int) (q0 o0 m0 gq cap : Nat) (D1 D2 D3 D4 D5 : Nat) (w : World) (hgq : gq < w.heap.size) (e0 : w.cell? ⟨gq, 0, none⟩ = some (.slice (some ⟨q0, o0, none⟩) 2 m0)) (hI0 : Ii w (some ⟨q0, o0, none⟩) 2 m0 [v0, v1]) (hv0 : 0 ≤ v0) (hv0' : v0 ≤ 3000) (hv1 : 0 ≤ v1) (hv1' : v1 ≤ 3000) (hp1 : 0 ≤ p) (hp2 : p ≤ 3000) (hc1 : 0 ≤ c) (hc2 : c ≤ 100000) (ho1 : 0 ≤ off) (ho2 : off ≤ 5) (u1 : w.heap[D1]? = some (.cells #[.int .i64 c] 3 (0, 0))) (u2 : w.heap[D2]? = some (.cells #[.int .i64 l1, .int .i64 h1, .int .i64 l2, .int .i64 h2, .int .i64 l3, .int .i64 h3, .int .i64 l4, .int .i64 h4, .int .i64 l5, .int .i64 h5, .bool wo] 43 (0, 0))) (u3 : w.heap[D3]? = some (.cells #[.int .i64 1] 3 (0, 0))) (u4 : w.heap[D4]? = some (.cells #[x0, x1, x2, x3, x4, x5, x6, .int .i64 off] 127 (0, 0))) (u5 : w.heap[D5]? = some (.cells #[.slice (some ⟨gq, 0, none⟩) 1 cap] 152 (0, 0))) :
  Calls Tryz.prog 98 #[.int .i64 p, .pointer (some ⟨D1, 0, none⟩), .pointer (some ⟨D2, 0, none⟩), .pointer (some ⟨D3, 0, none⟩), .pointer (some ⟨D4, 0, none⟩), .pointer (some ⟨D5, 0, none⟩)] w (fun e w' => e = .returned (.bool (okP ⟨(l1, h1), (l2, h2), (l3, h3), (l4, h4), (l5, h5), wo⟩ c off p [(v0, v1)] 1)) ∧ Below w.heap.size w w') := by
 have tb : -10000 ≤ (targetOf ⟨(l1, h1), (l2, h2), (l3, h3), (l4, h4), (l5, h5), wo⟩ 1).1 ∧ (targetOf ⟨(l1, h1), (l2, h2), (l3, h3), (l4, h4), (l5, h5), wo⟩ 1).1 ≤ 10000 ∧ -10000 ≤ (targetOf ⟨(l1, h1), (l2, h2), (l3, h3), (l4, h4), (l5, h5), wo⟩ 1).2 ∧ (targetOf ⟨(l1, h1), (l2, h2), (l3, h3), (l4, h4), (l5, h5), wo⟩ 1).2 ≤ 10000 := by have h := targetOf_in hw 1; omega
 refine calls_fr Tryz.func98 Tryz.ntmps98 rfl rfl fun g hg => ?_
 have k0 : g 0 = .int .i64 p := hg 0
 have k1 : g 1 = .pointer (some ⟨D1, 0, none⟩) := hg 1
 have k2 : g 2 = .pointer (some ⟨D2, 0, none⟩) := hg 2
 have k3 : g 3 = .pointer (some ⟨D3, 0, none⟩) := hg 3
 have k4 : g 4 = .pointer (some ⟨D4, 0, none⟩) := hg 4
 have k5 : g 5 = .pointer (some ⟨D5, 0, none⟩) := hg 5
 clear hg
 have fB0 : Below w.heap.size w w := Below.refl _ _
 have lt_D1 := ltb u1
 have lt_D2 := ltb u2
 have lt_D3 := ltb u3
 have lt_D4 := ltb u4
 have lt_D5 := ltb u5
 refine rw_ 2 [(6, 0), (7, 1)] [[], []] (rel [bx 0 #[.int .i64 p] 3, iB false])
  ⟨fun f s W d i j k l a => opb rfl rfl (by simp [go_sem, a.e 0 k0]),
  fun f s W d i j k l a => opz, trivial⟩ ?_
 intro f1 s1 W1 hB1 g1 hg1 z1
 have b1_0 := hB1.b u1
 have b1_1 := hB1.b u2
 have b1_2 := hB1.b u3
 obtain ⟨r1_0, br1_0⟩ := hB1.is 0
 have lr1_0 := hB1.lr 0 br1_0
 have k1_1 := kt hg1 1 k1
 have k1_2 := kt hg1 2 k2
 have k1_3 := kt hg1 3 k3
 have k1_6 := kt hg1 6 r1_0
 refine wp_seq_k fun K2 hK2 => ?_
 refine rw_ 7 [(9, 0), (10, 1), (11, 2), (12, 3), (13, 4), (14, 5), (15, 6)] [[], [], [], [], [2, 3], [0, 1, 4], [5]] (rel [iI p, iI c, is (.agg #[.int .i64 l1, .int .i64 h1, .int .i64 l2, .int .i64 h2, .int .i64 l3, .int .i64 h3, .int .i64 l4, .int .i64 h4, .int .i64 l5, .int .i64 h5, .bool wo]), iI 1, is (.agg #[.int .i64 ((targetOf ⟨(l1, h1), (l2, h2), (l3, h3), (l4, h4), (l5, h5), wo⟩ 1).1), .int .i64 ((targetOf ⟨(l1, h1), (l2, h2), (l3, h3), (l4, h4), (l5, h5), wo⟩ 1).2)]), iB (isInOf p 1 c (targetOf ⟨(l1, h1), (l2, h2), (l3, h3), (l4, h4), (l5, h5), wo⟩ 1)), iB (!(isInOf p 1 c (targetOf ⟨(l1, h1), (l2, h2), (l3, h3), (l4, h4), (l5, h5), wo⟩ 1)))])
  ⟨fun f s W d i j k l a => opv rfl rfl (by simp [go_sem, a.e 6 k1_6, cb br1_0 d 0]) rfl,
  fun f s W d i j k l a => opv rfl rfl (by simp [go_sem, a.e 1 k1_1, cb b1_0 d 0]) rfl,
  fun f s W d i j k l a => opv rfl rfl (by simp [go_sem, a.e 2 k1_2, cb b1_1 d 0, cb b1_1 d 1, cb b1_1 d 2, cb b1_1 d 3, cb b1_1 d 4, cb b1_1 d 5, cb b1_1 d 6, cb b1_1 d 7, cb b1_1 d 8, cb b1_1 d 9, cb b1_1 d 10]) rfl,
  fun f s W d i j k l a => opv rfl rfl (by simp [go_sem, a.e 3 k1_3, cb b1_2 d 0]) rfl,
  fun f s W d i j k l a => opc rfl rfl (by simp [go_sem, a.e 11 (i 2 rfl), a.e 12 (i 3 rfl)]) (target_any l1 h1 l2 h2 l3 h3 l4 h4 l5 h5 wo 1 (by omega) W),
  fun f s W d i j k l a => opc (args := #[.int .i64 p, .int .i64 1, .int .i64 c, .agg #[.int .i64 ((targetOf ⟨(l1, h1), (l2, h2), (l3, h3), (l4, h4), (l5, h5), wo⟩ 1).1), .int .i64 ((targetOf ⟨(l1, h1), (l2, h2), (l3, h3), (l4, h4), (l5, h5), wo⟩ 1).2)]]) rfl rfl (by simp [go_sem, a.e 9 (i 0 rfl), a.e 10 (i 1 rfl), a.e 13 (i 4 rfl)]) (isIn_any p 1 c _ _ W (by omega) (by omega) (by omega) (by omega) hc1 hc2 tb.1 tb.2.1 tb.2.2.1 tb.2.2.2),
  fun f s W d i j k l a => opv rfl rfl (by simp [go_sem, a.e 14 (i 5 rfl)]) rfl, trivial⟩ ?_
 intro f2 s2 W2 hB2 g2 hg2 z2
 have fB2 := hB2.f (hB1.f fB0)
 have k2_1 := kt hg2 1 k1_1
 have k2_2 := kt hg2 2 k1_2
 have k2_3 := kt hg2 3 k1_3
 have k2_4 := kt hg2 4 (kt hg1 4 k4)
 have k2_6 := kt hg2 6 k1_6
 have k2_15 := kt hg2 15 (hB2.is 6)
 refine wp_cond_split (t := !(isInOf p 1 c (targetOf ⟨(l1, h1), (l2, h2), (l3, h3), (l4, h4), (l5, h5), wo⟩ 1))) ((fr_eval rfl).trans k2_15) (fun hc4 => ?_) (fun hc4 => ?_)
 ·
  have hc4' := hc4; try simp only [ba] at hc4'
  refine rw_ 1 [(7, 0)] [[]] (rel [iB false])
   ⟨fun f s W d i j k l a => opz, trivial⟩ ?_
  intro f3 s3 W3 hB3 g3 hg3 z3
  have fB3 := hB3.f fB2
  have k3_7 := kt hg3 7 (hB3.is 0)
  refine wp_ret ?_
  refine then_ret ?_
  refine leave_one (N := 21) (.inr rfl) Tryz.results98 rfl k3_7 ?_
  exact ⟨by have h' := hc4; simp at h'; simp [okP, h'], fB3⟩
 ·
  have hc4' := hc4; try simp only [ba] at hc4'
  refine wp_skip ?_
  refine hK2 _ _ ?_
  refine rw_ 2 [(16, 0), (8, 1)] [[], [0]] (rel [is (.func (.func 100) #[] #[.pointer (some ⟨D3, 0, none⟩), .pointer (some ⟨D4, 0, none⟩), .pointer (some ⟨(s1 0), 0, none⟩), .pointer (some ⟨D1, 0, none⟩), .pointer (some ⟨D2, 0, none⟩)]), is (.func (.func 100) #[] #[.pointer (some ⟨D3, 0, none⟩), .pointer (some ⟨D4, 0, none⟩), .pointer (some ⟨(s1 0), 0, none⟩), .pointer (some ⟨D1, 0, none⟩), .pointer (some ⟨D2, 0, none⟩)])])
   ⟨fun f s W d i j k l a => opv rfl rfl (by simp [go_sem, a.e 3 k2_3, a.e 4 k2_4, a.e 6 k2_6, a.e 1 k2_1, a.e 2 k2_2]) rfl,
  fun f s W d i j k l a => opm (a.v 16 (i 0 rfl)), trivial⟩ ?_
  intro f4 s4 W4 hB4 g4 hg4 z4
  have fB4 := hB4.f fB2
  have b4_0 := hB4.b (hB2.b b1_0)
  have b4_1 := hB4.b (hB2.b b1_1)
  have b4_2 := hB4.b (hB2.b b1_2)
  have b4_3 := hB4.b (hB2.b (hB1.b u4))
  have b4_4 := hB4.b (hB2.b (hB1.b u5))
  have b4_5 := hB4.b (hB2.b br1_0)
  have k4_5 := kt hg4 5 (kt hg2 5 (kt hg1 5 k5))
  have k4_8 := kt hg4 8 (hB4.is 1)
  refine rw_ 5 [(17, 0), (18, 1), (19, 2), (20, 3), (7, 4)] [[], [], [0, 1], [2], [3]] (rel [is (.slice (some ⟨gq, 0, none⟩) 1 cap), is (.func (.func 100) #[] #[.pointer (some ⟨D3, 0, none⟩), .pointer (some ⟨D4, 0, none⟩), .pointer (some ⟨(s1 0), 0, none⟩), .pointer (some ⟨D1, 0, none⟩), .pointer (some ⟨D2, 0, none⟩)]), iB (badF ⟨(l1, h1), (l2, h2), (l3, h3), (l4, h4), (l5, h5), wo⟩ c off p (v0, v1) 1), iB (!(badF ⟨(l1, h1), (l2, h2), (l3, h3), (l4, h4), (l5, h5), wo⟩ c off p (v0, v1) 1)), iB (!(badF ⟨(l1, h1), (l2, h2), (l3, h3), (l4, h4), (l5, h5), wo⟩ c off p (v0, v1) 1))])
   ⟨fun f s W d i j k l a => opv rfl rfl (by simp [go_sem, a.e 5 k4_5, cb b4_4 d 0]) rfl,
  fun f s W d i j k l a => opm (a.v 8 k4_8),
  fun f s W d i j k l a => by have m := bwt fB4 d; exact opc (args := #[.slice (some ⟨gq, 0, none⟩) 1 cap, .func (.func 100) #[] #[.pointer (some ⟨D3, 0, none⟩), .pointer (some ⟨D4, 0, none⟩), .pointer (some ⟨(s1 0), 0, none⟩), .pointer (some ⟨D1, 0, none⟩), .pointer (some ⟨D2, 0, none⟩)]]) rfl rfl (by simp [go_sem, a.e 17 (i 0 rfl), a.e 18 (i 1 rfl)]) (containsFunc_rows1 _ _ _ (badF ⟨(l1, h1), (l2, h2), (l3, h3), (l4, h4), (l5, h5), wo⟩ c off p (v0, v1) 1) D3 D4 _ D1 D2 gq cap W (Nat.lt_of_lt_of_le hgq m.size) ((m.cell (p := ⟨gq, 0, none⟩) hgq).trans e0) (fun W' hb' => closes3_1 x0 x1 x2 x3 x4 x5 x6 l1 h1 l2 h2 l3 h3 l4 h4 l5 h5 wo hw p c off v0 v1 q0 o0 m0 D3 D4 _ D1 D2 W' (hI0.below (bwt m hb') (Nat.le_refl _)) hv0 hv0' hv1 hv1' hp1 hp2 hc1 hc2 ho1 ho2 (bwb (bwb b4_2 d) hb') (bwb (bwb b4_3 d) hb') (bwb (bwb b4_5 d) hb') (bwb (bwb b4_0 d) hb') (bwb (bwb b4_1 d) hb'))),
  fun f s W d i j k l a => opv rfl rfl (by simp [go_sem, a.e 19 (i 2 rfl)]) rfl,
  fun f s W d i j k l a => opm (a.v 20 (i 3 rfl)), trivial⟩ ?_
  intro f5 s5 W5 hB5 g5 hg5 z5
  have fB5 := hB5.f fB4
  have k5_7 := kt hg5 7 (hB5.is 4)
  refine wp_ret ?_
  refine leave_one (N := 21) (.inr rfl) Tryz.results98 rfl k5_7 ?_
  exact ⟨by have h' := hc4; simp at h'; simp [okP, h'], fB5⟩
theorem closesP_2_1 (x0 x1 x2 x3 x4 x5 x6 : Value) (l1 h1 l2 h2 l3 h3 l4 h4 l5 h5 : Int) (wo : Bool) (hw : WishIn ⟨(l1, h1), (l2, h2), (l3, h3), (l4, h4), (l5, h5), wo⟩) (p c off v0 v1 : Int) (q0 o0 m0 gq cap : Nat) (D1 D2 D3 D4 D5 : Nat) (w : World) (hgq : gq < w.heap.size) (e0 : w.cell? ⟨gq, 0, none⟩ = some (.slice (some ⟨q0, o0, none⟩) 2 m0)) (hI0 : Ii w (some ⟨q0, o0, none⟩) 2 m0 [v0, v1]) (hv0 : 0 ≤ v0) (hv0' : v0 ≤ 3000) (hv1 : 0 ≤ v1) (hv1' : v1 ≤ 3000) (hp1 : 0 ≤ p) (hp2 : p ≤ 3000) (hc1 : 0 ≤ c) (hc2 : c ≤ 100000) (ho1 : 0 ≤ off) (ho2 : off ≤ 5) (u1 : w.heap[D1]? = some (.cells #[.int .i64 c] 3 (0, 0))) (u2 : w.heap[D2]? = some (.cells #[.int .i64 l1, .int .i64 h1, .int .i64 l2, .int .i64 h2, .int .i64 l3, .int .i64 h3, .int .i64 l4, .int .i64 h4, .int .i64 l5, .int .i64 h5, .bool wo] 43 (0, 0))) (u3 : w.heap[D3]? = some (.cells #[.int .i64 2] 3 (0, 0))) (u4 : w.heap[D4]? = some (.cells #[x0, x1, x2, x3, x4, x5, x6, .int .i64 off] 127 (0, 0))) (u5 : w.heap[D5]? = some (.cells #[.slice (some ⟨gq, 0, none⟩) 1 cap] 152 (0, 0))) :
  Calls Tryz.prog 98 #[.int .i64 p, .pointer (some ⟨D1, 0, none⟩), .pointer (some ⟨D2, 0, none⟩), .pointer (some ⟨D3, 0, none⟩), .pointer (some ⟨D4, 0, none⟩), .pointer (some ⟨D5, 0, none⟩)] w (fun e w' => e = .returned (.bool (okP ⟨(l1, h1), (l2, h2), (l3, h3), (l4, h4), (l5, h5), wo⟩ c off p [(v0, v1)] 2)) ∧ Below w.heap.size w w') := by
 have tb : -10000 ≤ (targetOf ⟨(l1, h1), (l2, h2), (l3, h3), (l4, h4), (l5, h5), wo⟩ 2).1 ∧ (targetOf ⟨(l1, h1), (l2, h2), (l3, h3), (l4, h4), (l5, h5), wo⟩ 2).1 ≤ 10000 ∧ -10000 ≤ (targetOf ⟨(l1, h1), (l2, h2), (l3, h3), (l4, h4), (l5, h5), wo⟩ 2).2 ∧ (targetOf ⟨(l1, h1), (l2, h2), (l3, h3), (l4, h4), (l5, h5), wo⟩ 2).2 ≤ 10000 := by have h := targetOf_in hw 2; omega
 refine calls_fr Tryz.func98 Tryz.ntmps98 rfl rfl fun g hg => ?_
 have k0 : g 0 = .int .i64 p := hg 0
 have k1 : g 1 = .pointer (some ⟨D1, 0, none⟩) := hg 1
 have k2 : g 2 = .pointer (some ⟨D2, 0, none⟩) := hg 2
 have k3 : g 3 = .pointer (some ⟨D3, 0, none⟩) := hg 3
 have k4 : g 4 = .pointer (some ⟨D4, 0, none⟩) := hg 4
 have k5 : g 5 = .pointer (some ⟨D5, 0, none⟩) := hg 5
 clear hg
 have fB0 : Below w.heap.size w w := Below.refl _ _
 have lt_D1 := ltb u1
 have lt_D2 := ltb u2
 have lt_D3 := ltb u3
 have lt_D4 := ltb u4
 have lt_D5 := ltb u5
 refine rw_ 2 [(6, 0), (7, 1)] [[], []] (rel [bx 0 #[.int .i64 p] 3, iB false])
  ⟨fun f s W d i j k l a => opb rfl rfl (by simp [go_sem, a.e 0 k0]),
  fun f s W d i j k l a => opz, trivial⟩ ?_
 intro f1 s1 W1 hB1 g1 hg1 z1
 have b1_0 := hB1.b u1
 have b1_1 := hB1.b u2
 have b1_2 := hB1.b u3
 obtain ⟨r1_0, br1_0⟩ := hB1.is 0
 have lr1_0 := hB1.lr 0 br1_0
 have k1_1 := kt hg1 1 k1
 have k1_2 := kt hg1 2 k2
 have k1_3 := kt hg1 3 k3
 have k1_6 := kt hg1 6 r1_0
 refine wp_seq_k fun K2 hK2 => ?_
 refine rw_ 7 [(9, 0), (10, 1), (11, 2), (12, 3), (13, 4), (14, 5), (15, 6)] [[], [], [], [], [2, 3], [0, 1, 4], [5]] (rel [iI p, iI c, is (.agg #[.int .i64 l1, .int .i64 h1, .int .i64 l2, .int .i64 h2, .int .i64 l3, .int .i64 h3, .int .i64 l4, .int .i64 h4, .int .i64 l5, .int .i64 h5, .bool wo]), iI 2, is (.agg #[.int .i64 ((targetOf ⟨(l1, h1), (l2, h2), (l3, h3), (l4, h4), (l5, h5), wo⟩ 2).1), .int .i64 ((targetOf ⟨(l1, h1), (l2, h2), (l3, h3), (l4, h4), (l5, h5), wo⟩ 2).2)]), iB (isInOf p 1 c (targetOf ⟨(l1, h1), (l2, h2), (l3, h3), (l4, h4), (l5, h5), wo⟩ 2)), iB (!(isInOf p 1 c (targetOf ⟨(l1, h1), (l2, h2), (l3, h3), (l4, h4), (l5, h5), wo⟩ 2)))])
  ⟨fun f s W d i j k l a => opv rfl rfl (by simp [go_sem, a.e 6 k1_6, cb br1_0 d 0]) rfl,
  fun f s W d i j k l a => opv rfl rfl (by simp [go_sem, a.e 1 k1_1, cb b1_0 d 0]) rfl,
  fun f s W d i j k l a => opv rfl rfl (by simp [go_sem, a.e 2 k1_2, cb b1_1 d 0, cb b1_1 d 1, cb b1_1 d 2, cb b1_1 d 3, cb b1_1 d 4, cb b1_1 d 5, cb b1_1 d 6, cb b1_1 d 7, cb b1_1 d 8, cb b1_1 d 9, cb b1_1 d 10]) rfl,
  fun f s W d i j k l a => opv rfl rfl (by simp [go_sem, a.e 3 k1_3, cb b1_2 d 0]) rfl,
  fun f s W d i j k l a => opc rfl rfl (by simp [go_sem, a.e 11 (i 2 rfl), a.e 12 (i 3 rfl)]) (target_any l1 h1 l2 h2 l3 h3 l4 h4 l5 h5 wo 2 (by omega) W),
  fun f s W d i j k l a => opc (args := #[.int .i64 p, .int .i64 1, .int .i64 c, .agg #[.int .i64 ((targetOf ⟨(l1, h1), (l2, h2), (l3, h3), (l4, h4), (l5, h5), wo⟩ 2).1), .int .i64 ((targetOf ⟨(l1, h1), (l2, h2), (l3, h3), (l4, h4), (l5, h5), wo⟩ 2).2)]]) rfl rfl (by simp [go_sem, a.e 9 (i 0 rfl), a.e 10 (i 1 rfl), a.e 13 (i 4 rfl)]) (isIn_any p 1 c _ _ W (by omega) (by omega) (by omega) (by omega) hc1 hc2 tb.1 tb.2.1 tb.2.2.1 tb.2.2.2),
  fun f s W d i j k l a => opv rfl rfl (by simp [go_sem, a.e 14 (i 5 rfl)]) rfl, trivial⟩ ?_
 intro f2 s2 W2 hB2 g2 hg2 z2
 have fB2 := hB2.f (hB1.f fB0)
 have k2_1 := kt hg2 1 k1_1
 have k2_2 := kt hg2 2 k1_2
 have k2_3 := kt hg2 3 k1_3
 have k2_4 := kt hg2 4 (kt hg1 4 k4)
 have k2_6 := kt hg2 6 k1_6
 have k2_15 := kt hg2 15 (hB2.is 6)
 refine wp_cond_split (t := !(isInOf p 1 c (targetOf ⟨(l1, h1), (l2, h2), (l3, h3), (l4, h4), (l5, h5), wo⟩ 2))) ((fr_eval rfl).trans k2_15) (fun hc4 => ?_) (fun hc4 => ?_)
 ·
  have hc4' := hc4; try simp only [ba] at hc4'
  refine rw_ 1 [(7, 0)] [[]] (rel [iB false])
   ⟨fun f s W d i j k l a => opz, trivial⟩ ?_
  intro f3 s3 W3 hB3 g3 hg3 z3
  have fB3 := hB3.f fB2
  have k3_7 := kt hg3 7 (hB3.is 0)
  refine wp_ret ?_
  refine then_ret ?_
  refine leave_one (N := 21) (.inr rfl) Tryz.results98 rfl k3_7 ?_
  exact ⟨by have h' := hc4; simp at h'; simp [okP, h'], fB3⟩
 ·
  have hc4' := hc4; try simp only [ba] at hc4'
  refine wp_skip ?_
  refine hK2 _ _ ?_
  refine rw_ 2 [(16, 0), (8, 1)] [[], [0]] (rel [is (.func (.func 100) #[] #[.pointer (some ⟨D3, 0, none⟩), .pointer (some ⟨D4, 0, none⟩), .pointer (some ⟨(s1 0), 0, none⟩), .pointer (some ⟨D1, 0, none⟩), .pointer (some ⟨D2, 0, none⟩)]), is (.func (.func 100) #[] #[.pointer (some ⟨D3, 0, none⟩), .pointer (some ⟨D4, 0, none⟩), .pointer (some ⟨(s1 0), 0, none⟩), .pointer (some ⟨D1, 0, none⟩), .pointer (some ⟨D2, 0, none⟩)])])
   ⟨fun f s W d i j k l a => opv rfl rfl (by simp [go_sem, a.e 3 k2_3, a.e 4 k2_4, a.e 6 k2_6, a.e 1 k2_1, a.e 2 k2_2]) rfl,
  fun f s W d i j k l a => opm (a.v 16 (i 0 rfl)), trivial⟩ ?_
  intro f4 s4 W4 hB4 g4 hg4 z4
  have fB4 := hB4.f fB2
  have b4_0 := hB4.b (hB2.b b1_0)
  have b4_1 := hB4.b (hB2.b b1_1)
  have b4_2 := hB4.b (hB2.b b1_2)
  have b4_3 := hB4.b (hB2.b (hB1.b u4))
  have b4_4 := hB4.b (hB2.b (hB1.b u5))
  have b4_5 := hB4.b (hB2.b br1_0)
  have k4_5 := kt hg4 5 (kt hg2 5 (kt hg1 5 k5))
  have k4_8 := kt hg4 8 (hB4.is 1)
  refine rw_ 5 [(17, 0), (18, 1), (19, 2), (20, 3), (7, 4)] [[], [], [0, 1], [2], [3]] (rel [is (.slice (some ⟨gq, 0, none⟩) 1 cap), is (.func (.func 100) #[] #[.pointer (some ⟨D3, 0, none⟩), .pointer (some ⟨D4, 0, none⟩), .pointer (some ⟨(s1 0), 0, none⟩), .pointer (some ⟨D1, 0, none⟩), .pointer (some ⟨D2, 0, none⟩)]), iB (badF ⟨(l1, h1), (l2, h2), (l3, h3), (l4, h4), (l5, h5), wo⟩ c off p (v0, v1) 2), iB (!(badF ⟨(l1, h1), (l2, h2), (l3, h3), (l4, h4), (l5, h5), wo⟩ c off p (v0, v1) 2)), iB (!(badF ⟨(l1, h1), (l2, h2), (l3, h3), (l4, h4), (l5, h5), wo⟩ c off p (v0, v1) 2))])
   ⟨fun f s W d i j k l a => opv rfl rfl (by simp [go_sem, a.e 5 k4_5, cb b4_4 d 0]) rfl,
  fun f s W d i j k l a => opm (a.v 8 k4_8),
  fun f s W d i j k l a => by have m := bwt fB4 d; exact opc (args := #[.slice (some ⟨gq, 0, none⟩) 1 cap, .func (.func 100) #[] #[.pointer (some ⟨D3, 0, none⟩), .pointer (some ⟨D4, 0, none⟩), .pointer (some ⟨(s1 0), 0, none⟩), .pointer (some ⟨D1, 0, none⟩), .pointer (some ⟨D2, 0, none⟩)]]) rfl rfl (by simp [go_sem, a.e 17 (i 0 rfl), a.e 18 (i 1 rfl)]) (containsFunc_rows1 _ _ _ (badF ⟨(l1, h1), (l2, h2), (l3, h3), (l4, h4), (l5, h5), wo⟩ c off p (v0, v1) 2) D3 D4 _ D1 D2 gq cap W (Nat.lt_of_lt_of_le hgq m.size) ((m.cell (p := ⟨gq, 0, none⟩) hgq).trans e0) (fun W' hb' => closes3_2 x0 x1 x2 x3 x4 x5 x6 l1 h1 l2 h2 l3 h3 l4 h4 l5 h5 wo hw p c off v0 v1 q0 o0 m0 D3 D4 _ D1 D2 W' (hI0.below (bwt m hb') (Nat.le_refl _)) hv0 hv0' hv1 hv1' hp1 hp2 hc1 hc2 ho1 ho2 (bwb (bwb b4_2 d) hb') (bwb (bwb b4_3 d) hb') (bwb (bwb b4_5 d) hb') (bwb (bwb b4_0 d) hb') (bwb (bwb b4_1 d) hb'))),
  fun f s W d i j k l a => opv rfl rfl (by simp [go_sem, a.e 19 (i 2 rfl)]) rfl,
  fun f s W d i j k l a => opm (a.v 20 (i 3 rfl)), trivial⟩ ?_
  intro f5 s5 W5 hB5 g5 hg5 z5
  have fB5 := hB5.f fB4
  have k5_7 := kt hg5 7 (hB5.is 4)
  refine wp_ret ?_
  refine leave_one (N := 21) (.inr rfl) Tryz.results98 rfl k5_7 ?_
  exact ⟨by have h' := hc4; simp at h'; simp [okP, h'], fB5⟩
theorem closesP_3_1 (x0 x1 x2 x3 x4 x5 x6 : Value) (l1 h1 l2 h2 l3 h3 l4 h4 l5 h5 : Int) (wo : Bool) (hw : WishIn ⟨(l1, h1), (l2, h2), (l3, h3), (l4, h4), (l5, h5), wo⟩) (p c off v0 v1 : Int) (q0 o0 m0 gq cap : Nat) (D1 D2 D3 D4 D5 : Nat) (w : World) (hgq : gq < w.heap.size) (e0 : w.cell? ⟨gq, 0, none⟩ = some (.slice (some ⟨q0, o0, none⟩) 2 m0)) (hI0 : Ii w (some ⟨q0, o0, none⟩) 2 m0 [v0, v1]) (hv0 : 0 ≤ v0) (hv0' : v0 ≤ 3000) (hv1 : 0 ≤ v1) (hv1' : v1 ≤ 3000) (hp1 : 0 ≤ p) (hp2 : p ≤ 3000) (hc1 : 0 ≤ c) (hc2 : c ≤ 100000) (ho1 : 0 ≤ off) (ho2 : off ≤ 5) (u1 : w.heap[D1]? = some (.cells #[.int .i64 c] 3 (0, 0))) (u2 : w.heap[D2]? = some (.cells #[.int .i64 l1, .int .i64 h1, .int .i64 l2, .int .i64 h2, .int .i64 l3, .int .i64 h3, .int .i64 l4, .int .i64 h4, .int .i64 l5, .int .i64 h5, .bool wo] 43 (0, 0))) (u3 : w.heap[D3]? = some (.cells #[.int .i64 3] 3 (0, 0))) (u4 : w.heap[D4]? = some (.cells #[x0, x1, x2, x3, x4, x5, x6, .int .i64 off] 127 (0, 0))) (u5 : w.heap[D5]? = some (.cells #[.slice (some ⟨gq, 0, none⟩) 1 cap] 152 (0, 0))) :
  Calls Tryz.prog 98 #[.int .i64 p, .pointer (some ⟨D1, 0, none⟩), .pointer (some ⟨D2, 0, none⟩), .pointer (some ⟨D3, 0, none⟩), .pointer (some ⟨D4, 0, none⟩), .pointer (some ⟨D5, 0, none⟩)] w (fun e w' => e = .returned (.bool (okP ⟨(l1, h1), (l2, h2), (l3, h3), (l4, h4), (l5, h5), wo⟩ c off p [(v0, v1)] 3)) ∧ Below w.heap.size w w') := by
 have tb : -10000 ≤ (targetOf ⟨(l1, h1), (l2, h2), (l3, h3), (l4, h4), (l5, h5), wo⟩ 3).1 ∧ (targetOf ⟨(l1, h1), (l2, h2), (l3, h3), (l4, h4), (l5, h5), wo⟩ 3).1 ≤ 10000 ∧ -10000 ≤ (targetOf ⟨(l1, h1), (l2, h2), (l3, h3), (l4, h4), (l5, h5), wo⟩ 3).2 ∧ (targetOf ⟨(l1, h1), (l2, h2), (l3, h3), (l4, h4), (l5, h5), wo⟩ 3).2 ≤ 10000 := by have h := targetOf_in hw 3; omega
 refine calls_fr Tryz.func98 Tryz.ntmps98 rfl rfl fun g hg => ?_
 have k0 : g 0 = .int .i64 p := hg 0
 have k1 : g 1 = .pointer (some ⟨D1, 0, none⟩) := hg 1
 have k2 : g 2 = .pointer (some ⟨D2, 0, none⟩) := hg 2
 have k3 : g 3 = .pointer (some ⟨D3, 0, none⟩) := hg 3
 have k4 : g 4 = .pointer (some ⟨D4, 0, none⟩) := hg 4
 have k5 : g 5 = .pointer (some ⟨D5, 0, none⟩) := hg 5
 clear hg
 have fB0 : Below w.heap.size w w := Below.refl _ _
 have lt_D1 := ltb u1
 have lt_D2 := ltb u2
 have lt_D3 := ltb u3
 have lt_D4 := ltb u4
 have lt_D5 := ltb u5
 refine rw_ 2 [(6, 0), (7, 1)] [[], []] (rel [bx 0 #[.int .i64 p] 3, iB false])
  ⟨fun f s W d i j k l a => opb rfl rfl (by simp [go_sem, a.e 0 k0]),
  fun f s W d i j k l a => opz, trivial⟩ ?_
 intro f1 s1 W1 hB1 g1 hg1 z1
 have b1_0 := hB1.b u1
 have b1_1 := hB1.b u2
 have b1_2 := hB1.b u3
 obtain ⟨r1_0, br1_0⟩ := hB1.is 0
 have lr1_0 := hB1.lr 0 br1_0
 have k1_1 := kt hg1 1 k1
 have k1_2 := kt hg1 2 k2
 have k1_3 := kt hg1 3 k3
 have k1_6 := kt hg1 6 r1_0
 refine wp_seq_k fun K2 hK2 => ?_
 refine rw_ 7 [(9, 0), (10, 1), (11, 2), (12, 3), (13, 4), (14, 5), (15, 6)] [[], [], [], [], [2, 3], [0, 1, 4], [5]] (rel [iI p, iI c, is (.agg #[.int .i64 l1, .int .i64 h1, .int .i64 l2, .int .i64 h2, .int .i64 l3, .int .i64 h3, .int .i64 l4, .int .i64 h4, .int .i64 l5, .int .i64 h5, .bool wo]), iI 3, is (.agg #[.int .i64 ((targetOf ⟨(l1, h1), (l2, h2), (l3, h3), (l4, h4), (l5, h5), wo⟩ 3).1), .int .i64 ((targetOf ⟨(l1, h1), (l2, h2), (l3, h3), (l4, h4), (l5, h5), wo⟩ 3).2)]), iB (isInOf p 1 c (targetOf ⟨(l1, h1), (l2, h2), (l3, h3), (l4, h4), (l5, h5), wo⟩ 3)), iB (!(isInOf p 1 c (targetOf ⟨(l1, h1), (l2, h2), (l3, h3), (l4, h4), (l5, h5), wo⟩ 3)))])
  ⟨fun f s W d i j k l a => opv rfl rfl (by simp [go_sem, a.e 6 k1_6, cb br1_0 d 0]) rfl,
  fun f s W d i j k l a => opv rfl rfl (by simp [go_sem, a.e 1 k1_1, cb b1_0 d 0]) rfl,
  fun f s W d i j k l a => opv rfl rfl (by simp [go_sem, a.e 2 k1_2, cb b1_1 d 0, cb b1_1 d 1, cb b1_1 d 2, cb b1_1 d 3, cb b1_1 d 4, cb b1_1 d 5, cb b1_1 d 6, cb b1_1 d 7, cb b1_1 d 8, cb b1_1 d 9, cb b1_1 d 10]) rfl,
  fun f s W d i j k l a => opv rfl rfl (by simp [go_sem, a.e 3 k1_3, cb b1_2 d 0]) rfl,
  fun f s W d i j k l a => opc rfl rfl (by simp [go_sem, a.e 11 (i 2 rfl), a.e 12 (i 3 rfl)]) (target_any l1 h1 l2 h2 l3 h3 l4 h4 l5 h5 wo 3 (by omega) W),
  fun f s W d i j k l a => opc (args := #[.int .i64 p, .int .i64 1, .int .i64 c, .agg #[.int .i64 ((targetOf ⟨(l1, h1), (l2, h2), (l3, h3), (l4, h4), (l5, h5), wo⟩ 3).1), .int .i64 ((targetOf ⟨(l1, h1), (l2, h2), (l3, h3), (l4, h4), (l5, h5), wo⟩ 3).2)]]) rfl rfl (by simp [go_sem, a.e 9 (i 0 rfl), a.e 10 (i 1 rfl), a.e 13 (i 4 rfl)]) (isIn_any p 1 c _ _ W (by omega) (by omega) (by omega) (by omega) hc1 hc2 tb.1 tb.2.1 tb.2.2.1 tb.2.2.2),
  fun f s W d i j k l a => opv rfl rfl (by simp [go_sem, a.e 14 (i 5 rfl)]) rfl, trivial⟩ ?_
 intro f2 s2 W2 hB2 g2 hg2 z2
 have fB2 := hB2.f (hB1.f fB0)
 have k2_1 := kt hg2 1 k1_1
 have k2_2 := kt hg2 2 k1_2
 have k2_3 := kt hg2 3 k1_3
 have k2_4 := kt hg2 4 (kt hg1 4 k4)
 have k2_6 := kt hg2 6 k1_6
 have k2_15 := kt hg2 15 (hB2.is 6)
 refine wp_cond_split (t := !(isInOf p 1 c (targetOf ⟨(l1, h1), (l2, h2), (l3, h3), (l4, h4), (l5, h5), wo⟩ 3))) ((fr_eval rfl).trans k2_15) (fun hc4 => ?_) (fun hc4 => ?_)
 ·
  have hc4' := hc4; try simp only [ba] at hc4'
  refine rw_ 1 [(7, 0)] [[]] (rel [iB false])
   ⟨fun f s W d i j k l a => opz, trivial⟩ ?_
  intro f3 s3 W3 hB3 g3 hg3 z3
  have fB3 := hB3.f fB2
  have k3_7 := kt hg3 7 (hB3.is 0)
  refine wp_ret ?_
  refine then_ret ?_
  refine leave_one (N := 21) (.inr rfl) Tryz.results98 rfl k3_7 ?_
  exact ⟨by have h' := hc4; simp at h'; simp [okP, h'], fB3⟩
 ·
  have hc4' := hc4; try simp only [ba] at hc4'
  refine wp_skip ?_
  refine hK2 _ _ ?_
  refine rw_ 2 [(16, 0), (8, 1)] [[], [0]] (rel [is (.func (.func 100) #[] #[.pointer (some ⟨D3, 0, none⟩), .pointer (some ⟨D4, 0, none⟩), .pointer (some ⟨(s1 0), 0, none⟩), .pointer (some ⟨D1, 0, none⟩), .pointer (some ⟨D2, 0, none⟩)]), is (.func (.func 100) #[] #[.pointer (some ⟨D3, 0, none⟩), .pointer (some ⟨D4, 0, none⟩), .pointer (some ⟨(s1 0), 0, none⟩), .pointer (some ⟨D1, 0, none⟩), .pointer (some ⟨D2, 0, none⟩)])])
   ⟨fun f s W d i j k l a => opv rfl rfl (by simp [go_sem, a.e 3 k2_3, a.e 4 k2_4, a.e 6 k2_6, a.e 1 k2_1, a.e 2 k2_2]) rfl,
  fun f s W d i j k l a => opm (a.v 16 (i 0 rfl)), trivial⟩ ?_
  intro f4 s4 W4 hB4 g4 hg4 z4
  have fB4 := hB4.f fB2
  have b4_0 := hB4.b (hB2.b b1_0)
  have b4_1 := hB4.b (hB2.b b1_1)
  have b4_2 := hB4.b (hB2.b b1_2)
  have b4_3 := hB4.b (hB2.b (hB1.b u4))
  have b4_4 := hB4.b (hB2.b (hB1.b u5))
  have b4_5 := hB4.b (hB2.b br1_0)
  have k4_5 := kt hg4 5 (kt hg2 5 (kt hg1 5 k5))
  have k4_8 := kt hg4 8 (hB4.is 1)
  refine rw_ 5 [(17, 0), (18, 1), (19, 2), (20, 3), (7, 4)] [[], [], [0, 1], [2], [3]] (rel [is (.slice (some ⟨gq, 0, none⟩) 1 cap), is (.func (.func 100) #[] #[.pointer (some ⟨D3, 0, none⟩), .pointer (some ⟨D4, 0, none⟩), .pointer (some ⟨(s1 0), 0, none⟩), .pointer (some ⟨D1, 0, none⟩), .pointer (some ⟨D2, 0, none⟩)]), iB (badF ⟨(l1, h1), (l2, h2), (l3, h3), (l4, h4), (l5, h5), wo⟩ c off p (v0, v1) 3), iB (!(badF ⟨(l1, h1), (l2, h2), (l3, h3), (l4, h4), (l5, h5), wo⟩ c off p (v0, v1) 3)), iB (!(badF ⟨(l1, h1), (l2, h2), (l3, h3), (l4, h4), (l5, h5), wo⟩ c off p (v0, v1) 3))])
   ⟨fun f s W d i j k l a => opv rfl rfl (by simp [go_sem, a.e 5 k4_5, cb b4_4 d 0]) rfl,
  fun f s W d i j k l a => opm (a.v 8 k4_8),
  fun f s W d i j k l a => by have m := bwt fB4 d; exact opc (args := #[.slice (some ⟨gq, 0, none⟩) 1 cap, .func (.func 100) #[] #[.pointer (some ⟨D3, 0, none⟩), .pointer (some ⟨D4, 0, none⟩), .pointer (some ⟨(s1 0), 0, none⟩), .pointer (some ⟨D1, 0, none⟩), .pointer (some ⟨D2, 0, none⟩)]]) rfl rfl (by simp [go_sem, a.e 17 (i 0 rfl), a.e 18 (i 1 rfl)]) (containsFunc_rows1 _ _ _ (badF ⟨(l1, h1), (l2, h2), (l3, h3), (l4, h4), (l5, h5), wo⟩ c off p (v0, v1) 3) D3 D4 _ D1 D2 gq cap W (Nat.lt_of_lt_of_le hgq m.size) ((m.cell (p := ⟨gq, 0, none⟩) hgq).trans e0) (fun W' hb' => closes3_3 x0 x1 x2 x3 x4 x5 x6 l1 h1 l2 h2 l3 h3 l4 h4 l5 h5 wo hw p c off v0 v1 q0 o0 m0 D3 D4 _ D1 D2 W' (hI0.below (bwt m hb') (Nat.le_refl _)) hv0 hv0' hv1 hv1' hp1 hp2 hc1 hc2 ho1 ho2 (bwb (bwb b4_2 d) hb') (bwb (bwb b4_3 d) hb') (bwb (bwb b4_5 d) hb') (bwb (bwb b4_0 d) hb') (bwb (bwb b4_1 d) hb'))),
  fun f s W d i j k l a => opv rfl rfl (by simp [go_sem, a.e 19 (i 2 rfl)]) rfl,
  fun f s W d i j k l a => opm (a.v 20 (i 3 rfl)), trivial⟩ ?_
  intro f5 s5 W5 hB5 g5 hg5 z5
  have fB5 := hB5.f fB4
  have k5_7 := kt hg5 7 (hB5.is 4)
  refine wp_ret ?_
  refine leave_one (N := 21) (.inr rfl) Tryz.results98 rfl k5_7 ?_
  exact ⟨by have h' := hc4; simp at h'; simp [okP, h'], fB5⟩
open Go.RowKit
theorem closesI_0_1 (x0 x2 x3 x4 x5 x6 : Value) (l1 h1 l2 h2 l3 h3 l4 h4 l5 h5 : Int) (wo : Bool) (hw : WishIn ⟨(l1, h1), (l2, h2), (l3, h3), (l4, h4), (l5, h5), wo⟩) (c off p0 p1 p2 p3 v0 v1 : Int) (q0 o0 m0 bp ox cp gq cap : Nat) (D1 D2 D3 D4 : Nat) (w : World) (hP : Ii w (some ⟨bp, ox, none⟩) 4 cp [p0, p1, p2, p3]) (hpp : ∀ x ∈ [p0, p1, p2, p3], 1 ≤ x ∧ x ≤ 3000) (hgq : gq < w.heap.size) (e0 : w.cell? ⟨gq, 0, none⟩ = some (.slice (some ⟨q0, o0, none⟩) 2 m0)) (hI0 : Ii w (some ⟨q0, o0, none⟩) 2 m0 [v0, v1]) (hv0 : 0 ≤ v0) (hv0' : v0 ≤ 3000) (hv1 : 0 ≤ v1) (hv1' : v1 ≤ 3000) (hc1 : 0 ≤ c) (hc2 : c ≤ 100000) (ho1 : 0 ≤ off) (ho2 : off ≤ 5) (u1 : w.heap[D1]? = some (.cells #[x0, .slice (some ⟨bp, ox, none⟩) 4 cp, x2, x3, x4, x5, x6, .int .i64 off] 127 (0, 0))) (u2 : w.heap[D2]? = some (.cells #[.int .i64 c] 3 (0, 0))) (u3 : w.heap[D3]? = some (.cells #[.int .i64 l1, .int .i64 h1, .int .i64 l2, .int .i64 h2, .int .i64 l3, .int .i64 h3, .int .i64 l4, .int .i64 h4, .int .i64 l5, .int .i64 h5, .bool wo] 43 (0, 0))) (u4 : w.heap[D4]? = some (.cells #[.slice (some ⟨gq, 0, none⟩) 1 cap] 152 (0, 0))) :
  Calls Tryz.prog 96 #[.int .i64 0, .pointer (some ⟨D1, 0, none⟩), .pointer (some ⟨D2, 0, none⟩), .pointer (some ⟨D3, 0, none⟩), .pointer (some ⟨D4, 0, none⟩)] w (fun e w' => e = .returned (.bool (someB 1 p0 off (fun p => okP ⟨(l1, h1), (l2, h2), (l3, h3), (l4, h4), (l5, h5), wo⟩ c off p [(v0, v1)] 0))) ∧ Below w.heap.size w w') := by
 obtain ⟨b', o', hbo, hbl, hcl⟩ := hP.at (by simp)
 cases hbo
 have hi := hpp p0 (by simp)
 refine calls_fr Tryz.func96 Tryz.ntmps96 rfl rfl fun g hg => ?_
 have k0 : g 0 = .int .i64 0 := hg 0
 have k1 : g 1 = .pointer (some ⟨D1, 0, none⟩) := hg 1
 have k2 : g 2 = .pointer (some ⟨D2, 0, none⟩) := hg 2
 have k3 : g 3 = .pointer (some ⟨D3, 0, none⟩) := hg 3
 have k4 : g 4 = .pointer (some ⟨D4, 0, none⟩) := hg 4
 clear hg
 have fB0 : Below w.heap.size w w := Below.refl _ _
 have lt_D1 := ltb u1
 have lt_D2 := ltb u2
 have lt_D3 := ltb u3
 have lt_D4 := ltb u4
 refine rw_ 2 [(5, 0), (6, 1)] [[], []] (rel [bx 0 #[.int .i64 0] 3, iB false])
  ⟨fun f s W d h i j k a => opb rfl rfl (by simp [go_sem, a.e 0 k0]),
  fun f s W d h i j k a => opz, trivial⟩ ?_
 intro f1 s1 W1 hB1 g1 hg1 z1
 have fB1 := hB1.f fB0
 have b1_0 := hB1.b u1
 have b1_1 := hB1.b u2
 have b1_2 := hB1.b u3
 have b1_3 := hB1.b u4
 obtain ⟨r1_0, br1_0⟩ := hB1.is 0
 have lr1_0 := hB1.lr 0 br1_0
 have k1_1 := kt hg1 1 k1
 have k1_2 := kt hg1 2 k2
 have k1_3 := kt hg1 3 k3
 have k1_4 := kt hg1 4 k4
 have k1_5 := kt hg1 5 r1_0
 refine rw_ 11 [(7, 0), (8, 1), (9, 2), (10, 3), (11, 4), (12, 5), (13, 6), (14, 7), (15, 8), (16, 9), (6, 10)] [[], [], [1], [2], [3], [], [4, 5], [6], [], [0, 7, 8], [9]] (rel [is (.agg #[x0, .slice (some ⟨bp, ox, none⟩) 4 cp, x2, x3, x4, x5, x6, .int .i64 off]), is (.pointer (some ⟨D1, 0, none⟩)), is (.pointer (some ⟨D1, 0, none⟩)), is (.pointer (some ⟨D1, 1, none⟩)), is (.slice (some ⟨bp, ox, none⟩) 4 cp), iI 0, is (.pointer (some ⟨bp, ox, none⟩)), iI p0, is (.func (.func 98) #[] #[.pointer (some ⟨D2, 0, none⟩), .pointer (some ⟨D3, 0, none⟩), .pointer (some ⟨(s1 0), 0, none⟩), .pointer (some ⟨D1, 0, none⟩), .pointer (some ⟨D4, 0, none⟩)]), iB (someB 1 p0 off (fun p => okP ⟨(l1, h1), (l2, h2), (l3, h3), (l4, h4), (l5, h5), wo⟩ c off p [(v0, v1)] 0)), iB (someB 1 p0 off (fun p => okP ⟨(l1, h1), (l2, h2), (l3, h3), (l4, h4), (l5, h5), wo⟩ c off p [(v0, v1)] 0))])
  ⟨fun f s W d h i j k a => opv rfl rfl (by simp [go_sem, a.e 1 k1_1, cb b1_0 d 0, cb b1_0 d 1, cb b1_0 d 2, cb b1_0 d 3, cb b1_0 d 4, cb b1_0 d 5, cb b1_0 d 6, cb b1_0 d 7]) rfl,
  fun f s W d h i j k a => opv rfl rfl (by simp [go_sem, a.e 1 k1_1]) rfl,
  fun f s W d h i j k a => opv rfl rfl (by simp [go_sem, a.e 8 (h 1 rfl)]) rfl,
  fun f s W d h i j k a => opv rfl rfl (by simp [go_sem, a.e 9 (h 2 rfl)]) rfl,
  fun f s W d h i j k a => opv rfl rfl (by simp [go_sem, a.e 10 (h 3 rfl), cb b1_0 d 1]) rfl,
  fun f s W d h i j k a => opv rfl rfl (by simp [go_sem, a.e 5 k1_5, cb br1_0 d 0]) rfl,
  fun f s W d h i j k a => opv rfl rfl (by simp [go_sem, a.e 11 (h 4 rfl), a.e 12 (h 5 rfl)]) rfl,
  fun f s W d h i j k a => by have l := bwt fB1 d; have uu : W.cell? ⟨bp, ox, none⟩ = some (.int .i64 p0) := (l.cell (p := ⟨bp, ox + 0, none⟩) hbl).trans (hcl 0 (by simp)); exact opv rfl rfl (by simp [go_sem, a.e 13 (h 6 rfl), uu]) rfl,
  fun f s W d h i j k a => opv rfl rfl (by simp [go_sem, a.e 2 k1_2, a.e 3 k1_3, a.e 5 k1_5, a.e 1 k1_1, a.e 4 k1_4]) rfl,
  fun f s W d h i j k a => by have l := bwt fB1 d; exact opc (args := #[.agg #[x0, .slice (some ⟨bp, ox, none⟩) 4 cp, x2, x3, x4, x5, x6, .int .i64 off], .int .i64 1, .int .i64 p0, .func (.func 98) #[] #[.pointer (some ⟨D2, 0, none⟩), .pointer (some ⟨D3, 0, none⟩), .pointer (some ⟨(s1 0), 0, none⟩), .pointer (some ⟨D1, 0, none⟩), .pointer (some ⟨D4, 0, none⟩)]]) rfl rfl (by simp [go_sem, a.e 7 (h 0 rfl), a.e 14 (h 7 rfl), a.e 15 (h 8 rfl)]) (some_any x0 (.slice (some ⟨bp, ox, none⟩) 4 cp) x2 x3 x4 x5 x6 off 1 p0  98 #[.pointer (some ⟨D2, 0, none⟩), .pointer (some ⟨D3, 0, none⟩), .pointer (some ⟨(s1 0), 0, none⟩), .pointer (some ⟨D1, 0, none⟩), .pointer (some ⟨D4, 0, none⟩)] (fun p => okP ⟨(l1, h1), (l2, h2), (l3, h3), (l4, h4), (l5, h5), wo⟩ c off p [(v0, v1)] 0) W (by omega) (by omega) (by omega) (by omega) (by omega) (by omega) (fun _ _ => by simp [go_sem]) (fun x y1 y2 W' hb' => closesP_0_1 x0 (.slice (some ⟨bp, ox, none⟩) 4 cp) x2 x3 x4 x5 x6 l1 h1 l2 h2 l3 h3 l4 h4 l5 h5 wo hw x c off v0 v1 q0 o0 m0 gq cap D2 D3 _ D1 D4 W' (Nat.lt_of_lt_of_le hgq (bwt l hb').size) ((hb'.cell (p := ⟨gq, 0, none⟩) (Nat.lt_of_lt_of_le hgq l.size)).trans ((l.cell (p := ⟨gq, 0, none⟩) hgq).trans e0)) (hI0.below (bwt l hb') (Nat.le_refl _)) hv0 hv0' hv1 hv1' (by unfold loOf at y1; omega) (by unfold hiOf at y2; omega) hc1 hc2 ho1 ho2 (bwb (bwb b1_1 d) hb') (bwb (bwb b1_2 d) hb') (bwb (bwb br1_0 d) hb') (bwb (bwb b1_0 d) hb') (bwb (bwb b1_3 d) hb'))),
  fun f s W d h i j k a => opm (a.v 16 (h 9 rfl)), trivial⟩ ?_
 intro f2 s2 W2 hB2 g2 hg2 z2
 have fB2 := hB2.f fB1
 have k2_6 := kt hg2 6 (hB2.is 10)
 refine wp_ret ?_
 refine leave_one (N := 17) (.inr rfl) Tryz.results96 rfl k2_6 ?_
 exact ⟨rfl, fB2⟩
theorem closesI_1_1 (x0 x2 x3 x4 x5 x6 : Value) (l1 h1 l2 h2 l3 h3 l4 h4 l5 h5 : Int) (wo : Bool) (hw : WishIn ⟨(l1, h1), (l2, h2), (l3, h3), (l4, h4), (l5, h5), wo⟩) (c off p0 p1 p2 p3 v0 v1 : Int) (q0 o0 m0 bp ox cp gq cap : Nat) (D1 D2 D3 D4 : Nat) (w : World) (hP : Ii w (some ⟨bp, ox, none⟩) 4 cp [p0, p1, p2, p3]) (hpp : ∀ x ∈ [p0, p1, p2, p3], 1 ≤ x ∧ x ≤ 3000) (hgq : gq < w.heap.size) (e0 : w.cell? ⟨gq, 0, none⟩ = some (.slice (some ⟨q0, o0, none⟩) 2 m0)) (hI0 : Ii w (some ⟨q0, o0, none⟩) 2 m0 [v0, v1]) (hv0 : 0 ≤ v0) (hv0' : v0 ≤ 3000) (hv1 : 0 ≤ v1) (hv1' : v1 ≤ 3000) (hc1 : 0 ≤ c) (hc2 : c ≤ 100000) (ho1 : 0 ≤ off) (ho2 : off ≤ 5) (u1 : w.heap[D1]? = some (.cells #[x0, .slice (some ⟨bp, ox, none⟩) 4 cp, x2, x3, x4, x5, x6, .int .i64 off] 127 (0, 0))) (u2 : w.heap[D2]? = some (.cells #[.int .i64 c] 3 (0, 0))) (u3 : w.heap[D3]? = some (.cells #[.int .i64 l1, .int .i64 h1, .int .i64 l2, .int .i64 h2, .int .i64 l3, .int .i64 h3, .int .i64 l4, .int .i64 h4, .int .i64 l5, .int .i64 h5, .bool wo] 43 (0, 0))) (u4 : w.heap[D4]? = some (.cells #[.slice (some ⟨gq, 0, none⟩) 1 cap] 152 (0, 0))) :
  Calls Tryz.prog 96 #[.int .i64 1, .pointer (some ⟨D1, 0, none⟩), .pointer (some ⟨D2, 0, none⟩), .pointer (some ⟨D3, 0, none⟩), .pointer (some ⟨D4, 0, none⟩)] w (fun e w' => e = .returned (.bool (someB 1 p1 off (fun p => okP ⟨(l1, h1), (l2, h2), (l3, h3), (l4, h4), (l5, h5), wo⟩ c off p [(v0, v1)] 1))) ∧ Below w.heap.size w w') := by
 obtain ⟨b', o', hbo, hbl, hcl⟩ := hP.at (by simp)
 cases hbo
 have hi := hpp p1 (by simp)
 refine calls_fr Tryz.func96 Tryz.ntmps96 rfl rfl fun g hg => ?_
 have k0 : g 0 = .int .i64 1 := hg 0
 have k1 : g 1 = .pointer (some ⟨D1, 0, none⟩) := hg 1
 have k2 : g 2 = .pointer (some ⟨D2, 0, none⟩) := hg 2
 have k3 : g 3 = .pointer (some ⟨D3, 0, none⟩) := hg 3
 have k4 : g 4 = .pointer (some ⟨D4, 0, none⟩) := hg 4
 clear hg
 have fB0 : Below w.heap.size w w := Below.refl _ _
 have lt_D1 := ltb u1
 have lt_D2 := ltb u2
 have lt_D3 := ltb u3
 have lt_D4 := ltb u4
 refine rw_ 2 [(5, 0), (6, 1)] [[], []] (rel [bx 0 #[.int .i64 1] 3, iB false])
  ⟨fun f s W d h i j k a => opb rfl rfl (by simp [go_sem, a.e 0 k0]),
  fun f s W d h i j k a => opz, trivial⟩ ?_
 intro f1 s1 W1 hB1 g1 hg1 z1
 have fB1 := hB1.f fB0
 have b1_0 := hB1.b u1
 have b1_1 := hB1.b u2
 have b1_2 := hB1.b u3
 have b1_3 := hB1.b u4
 obtain ⟨r1_0, br1_0⟩ := hB1.is 0
 have lr1_0 := hB1.lr 0 br1_0
 have k1_1 := kt hg1 1 k1
 have k1_2 := kt hg1 2 k2
 have k1_3 := kt hg1 3 k3
 have k1_4 := kt hg1 4 k4
 have k1_5 := kt hg1 5 r1_0
 refine rw_ 11 [(7, 0), (8, 1), (9, 2), (10, 3), (11, 4), (12, 5), (13, 6), (14, 7), (15, 8), (16, 9), (6, 10)] [[], [], [1], [2], [3], [], [4, 5], [6], [], [0, 7, 8], [9]] (rel [is (.agg #[x0, .slice (some ⟨bp, ox, none⟩) 4 cp, x2, x3, x4, x5, x6, .int .i64 off]), is (.pointer (some ⟨D1, 0, none⟩)), is (.pointer (some ⟨D1, 0, none⟩)), is (.pointer (some ⟨D1, 1, none⟩)), is (.slice (some ⟨bp, ox, none⟩) 4 cp), iI 1, is (.pointer (some ⟨bp, ox + 1, none⟩)), iI p1, is (.func (.func 98) #[] #[.pointer (some ⟨D2, 0, none⟩), .pointer (some ⟨D3, 0, none⟩), .pointer (some ⟨(s1 0), 0, none⟩), .pointer (some ⟨D1, 0, none⟩), .pointer (some ⟨D4, 0, none⟩)]), iB (someB 1 p1 off (fun p => okP ⟨(l1, h1), (l2, h2), (l3, h3), (l4, h4), (l5, h5), wo⟩ c off p [(v0, v1)] 1)), iB (someB 1 p1 off (fun p => okP ⟨(l1, h1), (l2, h2), (l3, h3), (l4, h4), (l5, h5), wo⟩ c off p [(v0, v1)] 1))])
  ⟨fun f s W d h i j k a => opv rfl rfl (by simp [go_sem, a.e 1 k1_1, cb b1_0 d 0, cb b1_0 d 1, cb b1_0 d 2, cb b1_0 d 3, cb b1_0 d 4, cb b1_0 d 5, cb b1_0 d 6, cb b1_0 d 7]) rfl,
  fun f s W d h i j k a => opv rfl rfl (by simp [go_sem, a.e 1 k1_1]) rfl,
  fun f s W d h i j k a => opv rfl rfl (by simp [go_sem, a.e 8 (h 1 rfl)]) rfl,
  fun f s W d h i j k a => opv rfl rfl (by simp [go_sem, a.e 9 (h 2 rfl)]) rfl,
  fun f s W d h i j k a => opv rfl rfl (by simp [go_sem, a.e 10 (h 3 rfl), cb b1_0 d 1]) rfl,
  fun f s W d h i j k a => opv rfl rfl (by simp [go_sem, a.e 5 k1_5, cb br1_0 d 0]) rfl,
  fun f s W d h i j k a => opv rfl rfl (by simp [go_sem, a.e 11 (h 4 rfl), a.e 12 (h 5 rfl)]) rfl,
  fun f s W d h i j k a => by have l := bwt fB1 d; have uu : W.cell? ⟨bp, ox + 1, none⟩ = some (.int .i64 p1) := (l.cell (p := ⟨bp, ox + 1, none⟩) hbl).trans (hcl 1 (by simp)); exact opv rfl rfl (by simp [go_sem, a.e 13 (h 6 rfl), uu]) rfl,
  fun f s W d h i j k a => opv rfl rfl (by simp [go_sem, a.e 2 k1_2, a.e 3 k1_3, a.e 5 k1_5, a.e 1 k1_1, a.e 4 k1_4]) rfl,
  fun f s W d h i j k a => by have l := bwt fB1 d; exact opc (args := #[.agg #[x0, .slice (some ⟨bp, ox, none⟩) 4 cp, x2, x3, x4, x5, x6, .int .i64 off], .int .i64 1, .int .i64 p1, .func (.func 98) #[] #[.pointer (some ⟨D2, 0, none⟩), .pointer (some ⟨D3, 0, none⟩), .pointer (some ⟨(s1 0), 0, none⟩), .pointer (some ⟨D1, 0, none⟩), .pointer (some ⟨D4, 0, none⟩)]]) rfl rfl (by simp [go_sem, a.e 7 (h 0 rfl), a.e 14 (h 7 rfl), a.e 15 (h 8 rfl)]) (some_any x0 (.slice (some ⟨bp, ox, none⟩) 4 cp) x2 x3 x4 x5 x6 off 1 p1  98 #[.pointer (some ⟨D2, 0, none⟩), .pointer (some ⟨D3, 0, none⟩), .pointer (some ⟨(s1 0), 0, none⟩), .pointer (some ⟨D1, 0, none⟩), .pointer (some ⟨D4, 0, none⟩)] (fun p => okP ⟨(l1, h1), (l2, h2), (l3, h3), (l4, h4), (l5, h5), wo⟩ c off p [(v0, v1)] 1) W (by omega) (by omega) (by omega) (by omega) (by omega) (by omega) (fun _ _ => by simp [go_sem]) (fun x y1 y2 W' hb' => closesP_1_1 x0 (.slice (some ⟨bp, ox, none⟩) 4 cp) x2 x3 x4 x5 x6 l1 h1 l2 h2 l3 h3 l4 h4 l5 h5 wo hw x c off v0 v1 q0 o0 m0 gq cap D2 D3 _ D1 D4 W' (Nat.lt_of_lt_of_le hgq (bwt l hb').size) ((hb'.cell (p := ⟨gq, 0, none⟩) (Nat.lt_of_lt_of_le hgq l.size)).trans ((l.cell (p := ⟨gq, 0, none⟩) hgq).trans e0)) (hI0.below (bwt l hb') (Nat.le_refl _)) hv0 hv0' hv1 hv1' (by unfold loOf at y1; omega) (by unfold hiOf at y2; omega) hc1 hc2 ho1 ho2 (bwb (bwb b1_1 d) hb') (bwb (bwb b1_2 d) hb') (bwb (bwb br1_0 d) hb') (bwb (bwb b1_0 d) hb') (bwb (bwb b1_3 d) hb'))),
  fun f s W d h i j k a => opm (a.v 16 (h 9 rfl)), trivial⟩ ?_
 intro f2 s2 W2 hB2 g2 hg2 z2
 have fB2 := hB2.f fB1
 have k2_6 := kt hg2 6 (hB2.is 10)
 refine wp_ret ?_
 refine leave_one (N := 17) (.inr rfl) Tryz.results96 rfl k2_6 ?_
 exact ⟨rfl, fB2⟩
theorem closesI_2_1 (x0 x2 x3 x4 x5 x6 : Value) (l1 h1 l2 h2 l3 h3 l4 h4 l5 h5 : Int) (wo : Bool) (hw : WishIn ⟨(l1, h1), (l2, h2), (l3, h3), (l4, h4), (l5, h5), wo⟩) (c off p0 p1 p2 p3 v0 v1 : Int) (q0 o0 m0 bp ox cp gq cap : Nat) (D1 D2 D3 D4 : Nat) (w : World) (hP : Ii w (some ⟨bp, ox, none⟩) 4 cp [p0, p1, p2, p3]) (hpp : ∀ x ∈ [p0, p1, p2, p3], 1 ≤ x ∧ x ≤ 3000) (hgq : gq < w.heap.size) (e0 : w.cell? ⟨gq, 0, none⟩ = some (.slice (some ⟨q0, o0, none⟩) 2 m0)) (hI0 : Ii w (some ⟨q0, o0, none⟩) 2 m0 [v0, v1]) (hv0 : 0 ≤ v0) (hv0' : v0 ≤ 3000) (hv1 : 0 ≤ v1) (hv1' : v1 ≤ 3000) (hc1 : 0 ≤ c) (hc2 : c ≤ 100000) (ho1 : 0 ≤ off) (ho2 : off ≤ 5) (u1 : w.heap[D1]? = some (.cells #[x0, .slice (some ⟨bp, ox, none⟩) 4 cp, x2, x3, x4, x5, x6, .int .i64 off] 127 (0, 0))) (u2 : w.heap[D2]? = some (.cells #[.int .i64 c] 3 (0, 0))) (u3 : w.heap[D3]? = some (.cells #[.int .i64 l1, .int .i64 h1, .int .i64 l2, .int .i64 h2, .int .i64 l3, .int .i64 h3, .int .i64 l4, .int .i64 h4, .int .i64 l5, .int .i64 h5, .bool wo] 43 (0, 0))) (u4 : w.heap[D4]? = some (.cells #[.slice (some ⟨gq, 0, none⟩) 1 cap] 152 (0, 0))) :
  Calls Tryz.prog 96 #[.int .i64 2, .pointer (some ⟨D1, 0, none⟩), .pointer (some ⟨D2, 0, none⟩), .pointer (some ⟨D3, 0, none⟩), .pointer (some ⟨D4, 0, none⟩)] w (fun e w' => e = .returned (.bool (someB 1 p2 off (fun p => okP ⟨(l1, h1), (l2, h2), (l3, h3), (l4, h4), (l5, h5), wo⟩ c off p [(v0, v1)] 2))) ∧ Below w.heap.size w w') := by
 obtain ⟨b', o', hbo, hbl, hcl⟩ := hP.at (by simp)
 cases hbo
 have hi := hpp p2 (by simp)
 refine calls_fr Tryz.func96 Tryz.ntmps96 rfl rfl fun g hg => ?_
 have k0 : g 0 = .int .i64 2 := hg 0
 have k1 : g 1 = .pointer (some ⟨D1, 0, none⟩) := hg 1
 have k2 : g 2 = .pointer (some ⟨D2, 0, none⟩) := hg 2
 have k3 : g 3 = .pointer (some ⟨D3, 0, none⟩) := hg 3
 have k4 : g 4 = .pointer (some ⟨D4, 0, none⟩) := hg 4
 clear hg
 have fB0 : Below w.heap.size w w := Below.refl _ _
 have lt_D1 := ltb u1
 have lt_D2 := ltb u2
 have lt_D3 := ltb u3
 have lt_D4 := ltb u4
 refine rw_ 2 [(5, 0), (6, 1)] [[], []] (rel [bx 0 #[.int .i64 2] 3, iB false])
  ⟨fun f s W d h i j k a => opb rfl rfl (by simp [go_sem, a.e 0 k0]),
  fun f s W d h i j k a => opz, trivial⟩ ?_
 intro f1 s1 W1 hB1 g1 hg1 z1
 have fB1 := hB1.f fB0
 have b1_0 := hB1.b u1
 have b1_1 := hB1.b u2
 have b1_2 := hB1.b u3
 have b1_3 := hB1.b u4
 obtain ⟨r1_0, br1_0⟩ := hB1.is 0
 have lr1_0 := hB1.lr 0 br1_0
 have k1_1 := kt hg1 1 k1
 have k1_2 := kt hg1 2 k2
 have k1_3 := kt hg1 3 k3
 have k1_4 := kt hg1 4 k4
 have k1_5 := kt hg1 5 r1_0
 refine rw_ 11 [(7, 0), (8, 1), (9, 2), (10, 3), (11, 4), (12, 5), (13, 6), (14, 7), (15, 8), (16, 9), (6, 10)] [[], [], [1], [2], [3], [], [4, 5], [6], [], [0, 7, 8], [9]] (rel [is (.agg #[x0, .slice (some ⟨bp, ox, none⟩) 4 cp, x2, x3, x4, x5, x6, .int .i64 off]), is (.pointer (some ⟨D1, 0, none⟩)), is (.pointer (some ⟨D1, 0, none⟩)), is (.pointer (some ⟨D1, 1, none⟩)), is (.slice (some ⟨bp, ox, none⟩) 4 cp), iI 2, is (.pointer (some ⟨bp, ox + 2, none⟩)), iI p2, is (.func (.func 98) #[] #[.pointer (some ⟨D2, 0, none⟩), .pointer (some ⟨D3, 0, none⟩), .pointer (some ⟨(s1 0), 0, none⟩), .pointer (some ⟨D1, 0, none⟩), .pointer (some ⟨D4, 0, none⟩)]), iB (someB 1 p2 off (fun p => okP ⟨(l1, h1), (l2, h2), (l3, h3), (l4, h4), (l5, h5), wo⟩ c off p [(v0, v1)] 2)), iB (someB 1 p2 off (fun p => okP ⟨(l1, h1), (l2, h2), (l3, h3), (l4, h4), (l5, h5), wo⟩ c off p [(v0, v1)] 2))])
  ⟨fun f s W d h i j k a => opv rfl rfl (by simp [go_sem, a.e 1 k1_1, cb b1_0 d 0, cb b1_0 d 1, cb b1_0 d 2, cb b1_0 d 3, cb b1_0 d 4, cb b1_0 d 5, cb b1_0 d 6, cb b1_0 d 7]) rfl,
  fun f s W d h i j k a => opv rfl rfl (by simp [go_sem, a.e 1 k1_1]) rfl,
  fun f s W d h i j k a => opv rfl rfl (by simp [go_sem, a.e 8 (h 1 rfl)]) rfl,
  fun f s W d h i j k a => opv rfl rfl (by simp [go_sem, a.e 9 (h 2 rfl)]) rfl,
  fun f s W d h i j k a => opv rfl rfl (by simp [go_sem, a.e 10 (h 3 rfl), cb b1_0 d 1]) rfl,
  fun f s W d h i j k a => opv rfl rfl (by simp [go_sem, a.e 5 k1_5, cb br1_0 d 0]) rfl,
  fun f s W d h i j k a => opv rfl rfl (by simp [go_sem, a.e 11 (h 4 rfl), a.e 12 (h 5 rfl)]) rfl,
  fun f s W d h i j k a => by have l := bwt fB1 d; have uu : W.cell? ⟨bp, ox + 2, none⟩ = some (.int .i64 p2) := (l.cell (p := ⟨bp, ox + 2, none⟩) hbl).trans (hcl 2 (by simp)); exact opv rfl rfl (by simp [go_sem, a.e 13 (h 6 rfl), uu]) rfl,
  fun f s W d h i j k a => opv rfl rfl (by simp [go_sem, a.e 2 k1_2, a.e 3 k1_3, a.e 5 k1_5, a.e 1 k1_1, a.e 4 k1_4]) rfl,
  fun f s W d h i j k a => by have l := bwt fB1 d; exact opc (args := #[.agg #[x0, .slice (some ⟨bp, ox, none⟩) 4 cp, x2, x3, x4, x5, x6, .int .i64 off], .int .i64 1, .int .i64 p2, .func (.func 98) #[] #[.pointer (some ⟨D2, 0, none⟩), .pointer (some ⟨D3, 0, none⟩), .pointer (some ⟨(s1 0), 0, none⟩), .pointer (some ⟨D1, 0, none⟩), .pointer (some ⟨D4, 0, none⟩)]]) rfl rfl (by simp [go_sem, a.e 7 (h 0 rfl), a.e 14 (h 7 rfl), a.e 15 (h 8 rfl)]) (some_any x0 (.slice (some ⟨bp, ox, none⟩) 4 cp) x2 x3 x4 x5 x6 off 1 p2  98 #[.pointer (some ⟨D2, 0, none⟩), .pointer (some ⟨D3, 0, none⟩), .pointer (some ⟨(s1 0), 0, none⟩), .pointer (some ⟨D1, 0, none⟩), .pointer (some ⟨D4, 0, none⟩)] (fun p => okP ⟨(l1, h1), (l2, h2), (l3, h3), (l4, h4), (l5, h5), wo⟩ c off p [(v0, v1)] 2) W (by omega) (by omega) (by omega) (by omega) (by omega) (by omega) (fun _ _ => by simp [go_sem]) (fun x y1 y2 W' hb' => closesP_2_1 x0 (.slice (some ⟨bp, ox, none⟩) 4 cp) x2 x3 x4 x5 x6 l1 h1 l2 h2 l3 h3 l4 h4 l5 h5 wo hw x c off v0 v1 q0 o0 m0 gq cap D2 D3 _ D1 D4 W' (Nat.lt_of_lt_of_le hgq (bwt l hb').size) ((hb'.cell (p := ⟨gq, 0, none⟩) (Nat.lt_of_lt_of_le hgq l.size)).trans ((l.cell (p := ⟨gq, 0, none⟩) hgq).trans e0)) (hI0.below (bwt l hb') (Nat.le_refl _)) hv0 hv0' hv1 hv1' (by unfold loOf at y1; omega) (by unfold hiOf at y2; omega) hc1 hc2 ho1 ho2 (bwb (bwb b1_1 d) hb') (bwb (bwb b1_2 d) hb') (bwb (bwb br1_0 d) hb') (bwb (bwb b1_0 d) hb') (bwb (bwb b1_3 d) hb'))),
  fun f s W d h i j k a => opm (a.v 16 (h 9 rfl)), trivial⟩ ?_
 intro f2 s2 W2 hB2 g2 hg2 z2
 have fB2 := hB2.f fB1
 have k2_6 := kt hg2 6 (hB2.is 10)
 refine wp_ret ?_
 refine leave_one (N := 17) (.inr rfl) Tryz.results96 rfl k2_6 ?_
 exact ⟨rfl, fB2⟩
theorem closesI_3_1 (x0 x2 x3 x4 x5 x6 : Value) (l1 h1 l2 h2 l3 h3 l4 h4 l5 h5 : Int) (wo : Bool) (hw : WishIn ⟨(l1, h1), (l2, h2), (l3, h3), (l4, h4), (l5, h5), wo⟩) (c off p0 p1 p2 p3 v0 v1 : Int) (q0 o0 m0 bp ox cp gq cap : Nat) (D1 D2 D3 D4 : Nat) (w : World) (hP : Ii w (some ⟨bp, ox, none⟩) 4 cp [p0, p1, p2, p3]) (hpp : ∀ x ∈ [p0, p1, p2, p3], 1 ≤ x ∧ x ≤ 3000) (hgq : gq < w.heap.size) (e0 : w.cell? ⟨gq, 0, none⟩ = some (.slice (some ⟨q0, o0, none⟩) 2 m0)) (hI0 : Ii w (some ⟨q0, o0, none⟩) 2 m0 [v0, v1]) (hv0 : 0 ≤ v0) (hv0' : v0 ≤ 3000) (hv1 : 0 ≤ v1) (hv1' : v1 ≤ 3000) (hc1 : 0 ≤ c) (hc2 : c ≤ 100000) (ho1 : 0 ≤ off) (ho2 : off ≤ 5) (u1 : w.heap[D1]? = some (.cells #[x0, .slice (some ⟨bp, ox, none⟩) 4 cp, x2, x3, x4, x5, x6, .int .i64 off] 127 (0, 0))) (u2 : w.heap[D2]? = some (.cells #[.int .i64 c] 3 (0, 0))) (u3 : w.heap[D3]? = some (.cells #[.int .i64 l1, .int .i64 h1, .int .i64 l2, .int .i64 h2, .int .i64 l3, .int .i64 h3, .int .i64 l4, .int .i64 h4, .int .i64 l5, .int .i64 h5, .bool wo] 43 (0, 0))) (u4 : w.heap[D4]? = some (.cells #[.slice (some ⟨gq, 0, none⟩) 1 cap] 152 (0, 0))) :
  Calls Tryz.prog 96 #[.int .i64 3, .pointer (some ⟨D1, 0, none⟩), .pointer (some ⟨D2, 0, none⟩), .pointer (some ⟨D3, 0, none⟩), .pointer (some ⟨D4, 0, none⟩)] w (fun e w' => e = .returned (.bool (someB 1 p3 off (fun p => okP ⟨(l1, h1), (l2, h2), (l3, h3), (l4, h4), (l5, h5), wo⟩ c off p [(v0, v1)] 3))) ∧ Below w.heap.size w w') := by
 obtain ⟨b', o', hbo, hbl, hcl⟩ := hP.at (by simp)
 cases hbo
 have hi := hpp p3 (by simp)
 refine calls_fr Tryz.func96 Tryz.ntmps96 rfl rfl fun g hg => ?_
 have k0 : g 0 = .int .i64 3 := hg 0
 have k1 : g 1 = .pointer (some ⟨D1, 0, none⟩) := hg 1
 have k2 : g 2 = .pointer (some ⟨D2, 0, none⟩) := hg 2
 have k3 : g 3 = .pointer (some ⟨D3, 0, none⟩) := hg 3
 have k4 : g 4 = .pointer (some ⟨D4, 0, none⟩) := hg 4
 clear hg
 have fB0 : Below w.heap.size w w := Below.refl _ _
 have lt_D1 := ltb u1
 have lt_D2 := ltb u2
 have lt_D3 := ltb u3
 have lt_D4 := ltb u4
 refine rw_ 2 [(5, 0), (6, 1)] [[], []] (rel [bx 0 #[.int .i64 3] 3, iB false])
  ⟨fun f s W d h i j k a => opb rfl rfl (by simp [go_sem, a.e 0 k0]),
  fun f s W d h i j k a => opz, trivial⟩ ?_
 intro f1 s1 W1 hB1 g1 hg1 z1
 have fB1 := hB1.f fB0
 have b1_0 := hB1.b u1
 have b1_1 := hB1.b u2
 have b1_2 := hB1.b u3
 have b1_3 := hB1.b u4
 obtain ⟨r1_0, br1_0⟩ := hB1.is 0
 have lr1_0 := hB1.lr 0 br1_0
 have k1_1 := kt hg1 1 k1
 have k1_2 := kt hg1 2 k2
 have k1_3 := kt hg1 3 k3
 have k1_4 := kt hg1 4 k4
 have k1_5 := kt hg1 5 r1_0
 refine rw_ 11 [(7, 0), (8, 1), (9, 2), (10, 3), (11, 4), (12, 5), (13, 6), (14, 7), (15, 8), (16, 9), (6, 10)] [[], [], [1], [2], [3], [], [4, 5], [6], [], [0, 7, 8], [9]] (rel [is (.agg #[x0, .slice (some ⟨bp, ox, none⟩) 4 cp, x2, x3, x4, x5, x6, .int .i64 off]), is (.pointer (some ⟨D1, 0, none⟩)), is (.pointer (some ⟨D1, 0, none⟩)), is (.pointer (some ⟨D1, 1, none⟩)), is (.slice (some ⟨bp, ox, none⟩) 4 cp), iI 3, is (.pointer (some ⟨bp, ox + 3, none⟩)), iI p3, is (.func (.func 98) #[] #[.pointer (some ⟨D2, 0, none⟩), .pointer (some ⟨D3, 0, none⟩), .pointer (some ⟨(s1 0), 0, none⟩), .pointer (some ⟨D1, 0, none⟩), .pointer (some ⟨D4, 0, none⟩)]), iB (someB 1 p3 off (fun p => okP ⟨(l1, h1), (l2, h2), (l3, h3), (l4, h4), (l5, h5), wo⟩ c off p [(v0, v1)] 3)), iB (someB 1 p3 off (fun p => okP ⟨(l1, h1), (l2, h2), (l3, h3), (l4, h4), (l5, h5), wo⟩ c off p [(v0, v1)] 3))])
  ⟨fun f s W d h i j k a => opv rfl rfl (by simp [go_sem, a.e 1 k1_1, cb b1_0 d 0, cb b1_0 d 1, cb b1_0 d 2, cb b1_0 d 3, cb b1_0 d 4, cb b1_0 d 5, cb b1_0 d 6, cb b1_0 d 7]) rfl,
  fun f s W d h i j k a => opv rfl rfl (by simp [go_sem, a.e 1 k1_1]) rfl,
  fun f s W d h i j k a => opv rfl rfl (by simp [go_sem, a.e 8 (h 1 rfl)]) rfl,
  fun f s W d h i j k a => opv rfl rfl (by simp [go_sem, a.e 9 (h 2 rfl)]) rfl,
  fun f s W d h i j k a => opv rfl rfl (by simp [go_sem, a.e 10 (h 3 rfl), cb b1_0 d 1]) rfl,
  fun f s W d h i j k a => opv rfl rfl (by simp [go_sem, a.e 5 k1_5, cb br1_0 d 0]) rfl,
  fun f s W d h i j k a => opv rfl rfl (by simp [go_sem, a.e 11 (h 4 rfl), a.e 12 (h 5 rfl)]) rfl,
  fun f s W d h i j k a => by have l := bwt fB1 d; have uu : W.cell? ⟨bp, ox + 3, none⟩ = some (.int .i64 p3) := (l.cell (p := ⟨bp, ox + 3, none⟩) hbl).trans (hcl 3 (by simp)); exact opv rfl rfl (by simp [go_sem, a.e 13 (h 6 rfl), uu]) rfl,
  fun f s W d h i j k a => opv rfl rfl (by simp [go_sem, a.e 2 k1_2, a.e 3 k1_3, a.e 5 k1_5, a.e 1 k1_1, a.e 4 k1_4]) rfl,
  fun f s W d h i j k a => by have l := bwt fB1 d; exact opc (args := #[.agg #[x0, .slice (some ⟨bp, ox, none⟩) 4 cp, x2, x3, x4, x5, x6, .int .i64 off], .int .i64 1, .int .i64 p3, .func (.func 98) #[] #[.pointer (some ⟨D2, 0, none⟩), .pointer (some ⟨D3, 0, none⟩), .pointer (some ⟨(s1 0), 0, none⟩), .pointer (some ⟨D1, 0, none⟩), .pointer (some ⟨D4, 0, none⟩)]]) rfl rfl (by simp [go_sem, a.e 7 (h 0 rfl), a.e 14 (h 7 rfl), a.e 15 (h 8 rfl)]) (some_any x0 (.slice (some ⟨bp, ox, none⟩) 4 cp) x2 x3 x4 x5 x6 off 1 p3  98 #[.pointer (some ⟨D2, 0, none⟩), .pointer (some ⟨D3, 0, none⟩), .pointer (some ⟨(s1 0), 0, none⟩), .pointer (some ⟨D1, 0, none⟩), .pointer (some ⟨D4, 0, none⟩)] (fun p => okP ⟨(l1, h1), (l2, h2), (l3, h3), (l4, h4), (l5, h5), wo⟩ c off p [(v0, v1)] 3) W (by omega) (by omega) (by omega) (by omega) (by omega) (by omega) (fun _ _ => by simp [go_sem]) (fun x y1 y2 W' hb' => closesP_3_1 x0 (.slice (some ⟨bp, ox, none⟩) 4 cp) x2 x3 x4 x5 x6 l1 h1 l2 h2 l3 h3 l4 h4 l5 h5 wo hw x c off v0 v1 q0 o0 m0 gq cap D2 D3 _ D1 D4 W' (Nat.lt_of_lt_of_le hgq (bwt l hb').size) ((hb'.cell (p := ⟨gq, 0, none⟩) (Nat.lt_of_lt_of_le hgq l.size)).trans ((l.cell (p := ⟨gq, 0, none⟩) hgq).trans e0)) (hI0.below (bwt l hb') (Nat.le_refl _)) hv0 hv0' hv1 hv1' (by unfold loOf at y1; omega) (by unfold hiOf at y2; omega) hc1 hc2 ho1 ho2 (bwb (bwb b1_1 d) hb') (bwb (bwb b1_2 d) hb') (bwb (bwb br1_0 d) hb') (bwb (bwb b1_0 d) hb') (bwb (bwb b1_3 d) hb'))),
  fun f s W d h i j k a => opm (a.v 16 (h 9 rfl)), trivial⟩ ?_
 intro f2 s2 W2 hB2 g2 hg2 z2
 have fB2 := hB2.f fB1
 have k2_6 := kt hg2 6 (hB2.is 10)
 refine wp_ret ?_
 refine leave_one (N := 17) (.inr rfl) Tryz.results96 rfl k2_6 ?_
 exact ⟨rfl, fB2⟩
open Go.RowKit
theorem closes_true (l1 h1 l2 h2 l3 h3 l4 h4 l5 h5 : Int) (wo : Bool) (hw : WishIn ⟨(l1, h1), (l2, h2), (l3, h3), (l4, h4), (l5, h5), wo⟩) (c off p0 p1 p2 p3 tab hh slot v0 v1 : Int) (vtop : Value) (tops : List Int) (q0 o0 m0 bp ox cp : Nat) (w : World) (hP : Ii w (some ⟨bp, ox, none⟩) 4 cp [p0, p1, p2, p3]) (hpp : ∀ x ∈ [p0, p1, p2, p3], 1 ≤ x ∧ x ≤ 3000) (hI0 : Ii w (some ⟨q0, o0, none⟩) 2 m0 [v0, v1]) (hv0 : 0 ≤ v0) (hv0' : v0 ≤ 3000) (hv1 : 0 ≤ v1) (hv1' : v1 ≤ 3000) (hc1 : 0 ≤ c) (hc2 : c ≤ 100000) (ho1 : 0 ≤ off) (ho2 : off ≤ 5) (hh1 : 1 ≤ hh) (hh2 : hh ≤ 3000) (hs1 : 0 ≤ slot) (hs2 : slot ≤ 20) (hwo : wo = true) :
  Calls Tryz.prog 70 #[.agg #[.int .i64 tab, .slice (some ⟨bp, ox, none⟩) 4 cp, .int .i64 hh, vtop, .slice (some ⟨q0, o0, none⟩) 2 m0, .int .i64 slot, .bool true, .int .i64 off], .agg #[.int .i64 l1, .int .i64 h1, .int .i64 l2, .int .i64 h2, .int .i64 l3, .int .i64 h3, .int .i64 l4, .int .i64 h4, .int .i64 l5, .int .i64 h5, .bool wo], .int .i64 c] w (fun e w' => e = .returned (.bool (closesOf ⟨tab, [p0, p1, p2, p3], hh, tops, [v0, v1], slot, true⟩ ⟨(l1, h1), (l2, h2), (l3, h3), (l4, h4), (l5, h5), wo⟩ off c)) ∧ Below w.heap.size w w') := by
 have hne : (true != wo) = false := by rw [hwo]; rfl
 have ho : (true == wo) = true := by rw [hwo]; rfl
 refine calls_fr Tryz.func70 Tryz.ntmps70 rfl rfl fun g hg => ?_
 have k0 : g 0 = .agg #[.int .i64 tab, .slice (some ⟨bp, ox, none⟩) 4 cp, .int .i64 hh, vtop, .slice (some ⟨q0, o0, none⟩) 2 m0, .int .i64 slot, .bool true, .int .i64 off] := hg 0
 have k1 : g 1 = .agg #[.int .i64 l1, .int .i64 h1, .int .i64 l2, .int .i64 h2, .int .i64 l3, .int .i64 h3, .int .i64 l4, .int .i64 h4, .int .i64 l5, .int .i64 h5, .bool wo] := hg 1
 have k2 : g 2 = .int .i64 c := hg 2
 clear hg
 have fB0 : Below w.heap.size w w := Below.refl _ _
 refine rw_ 4 [(3, 0), (4, 1), (5, 2), (6, 3)] [[], [], [], []] (rel [bx 0 #[.int .i64 tab, .slice (some ⟨bp, ox, none⟩) 4 cp, .int .i64 hh, vtop, .slice (some ⟨q0, o0, none⟩) 2 m0, .int .i64 slot, .bool true, .int .i64 off] 127, bx 1 #[.int .i64 l1, .int .i64 h1, .int .i64 l2, .int .i64 h2, .int .i64 l3, .int .i64 h3, .int .i64 l4, .int .i64 h4, .int .i64 l5, .int .i64 h5, .bool wo] 43, bx 2 #[.int .i64 c] 3, iB false])
  ⟨fun f s W i j k l m a => opb rfl rfl (by simp [go_sem, a.e 0 k0]),
  fun f s W i j k l m a => opb rfl rfl (by simp [go_sem, a.e 1 k1]),
  fun f s W i j k l m a => opb rfl rfl (by simp [go_sem, a.e 2 k2]),
  fun f s W i j k l m a => opz, trivial⟩ ?_
 intro f1 s1 W1 hB1 g1 hg1 z1
 obtain ⟨r1_0, br1_0⟩ := hB1.is 0
 have lr1_0 := hB1.lr 0 br1_0
 obtain ⟨r1_1, br1_1⟩ := hB1.is 1
 have lr1_1 := hB1.lr 1 br1_1
 obtain ⟨r1_2, br1_2⟩ := hB1.is 2
 have lr1_2 := hB1.lr 2 br1_2
 have ne1_0_1 : s1 0 ≠ s1 1 := hB1.ne 0 1 (by decide) (by decide) (by decide) (fun _ _ _ h => ltb h.2) (fun _ _ _ h => ltb h.2)
 have ne1_0_2 : s1 0 ≠ s1 2 := hB1.ne 0 2 (by decide) (by decide) (by decide) (fun _ _ _ h => ltb h.2) (fun _ _ _ h => ltb h.2)
 have ne1_1_2 : s1 1 ≠ s1 2 := hB1.ne 1 2 (by decide) (by decide) (by decide) (fun _ _ _ h => ltb h.2) (fun _ _ _ h => ltb h.2)
 have k1_3 := kt hg1 3 r1_0
 have k1_4 := kt hg1 4 r1_1
 refine wp_seq_k fun K2 hK2 => ?_
 refine rw_ 7 [(11, 0), (12, 1), (13, 2), (14, 3), (15, 4), (16, 5), (17, 6)] [[], [0], [1], [2], [], [4], [3, 5]] (rel [is (.pointer (some ⟨(s1 0), 0, none⟩)), is (.pointer (some ⟨(s1 0), 0, none⟩)), is (.pointer (some ⟨(s1 0), 6, none⟩)), iB true, is (.pointer (some ⟨(s1 1), 10, none⟩)), iB wo, iB (true != wo)])
  ⟨fun f s W i j k l m a => opv rfl rfl (by simp [go_sem, a.e 3 k1_3]) rfl,
  fun f s W i j k l m a => opv rfl rfl (by simp [go_sem, a.e 11 (j 0 rfl)]) rfl,
  fun f s W i j k l m a => opv rfl rfl (by simp [go_sem, a.e 12 (j 1 rfl)]) rfl,
  fun f s W i j k l m a => opv rfl rfl (by simp [go_sem, a.e 13 (j 2 rfl), cb br1_0 i 6]) rfl,
  fun f s W i j k l m a => opv rfl rfl (by simp [go_sem, a.e 4 k1_4]) rfl,
  fun f s W i j k l m a => opv rfl rfl (by simp [go_sem, a.e 15 (j 4 rfl), cb br1_1 i 10]) rfl,
  fun f s W i j k l m a => opv rfl rfl (by simp [go_sem, a.e 14 (j 3 rfl), a.e 16 (j 5 rfl)]) rfl, trivial⟩ ?_
 intro f2 s2 W2 hB2 g2 hg2 z2
 have b2_0 := hB2.b br1_0
 have k2_3 := kt hg2 3 k1_3
 have k2_17 := kt hg2 17 (hB2.is 6)
 have hc4 : (fr 65 g2).eval (.tmp 17) = .bool false := ((fr_eval rfl).trans k2_17).trans (by rw [hne])
 refine wp_cond_false (hc4) ?_
 refine wp_skip ?_
 refine hK2 _ _ ?_
 refine wp_seq_k fun K5 hK5 => ?_
 refine ry 6 [(18, 0), (19, 1), (20, 2), (21, 3), (22, 4), (7, 5)] [[], [0], [1], [2], [3], [], [0, 1, 2, 3, 4, 5]] (rel [is (.pointer (some ⟨(s1 0), 0, none⟩)), is (.pointer (some ⟨(s1 0), 0, none⟩)), is (.pointer (some ⟨(s1 0), 4, none⟩)), is (.slice (some ⟨q0, o0, none⟩) 2 m0), row 4 1 #[.slice (some ⟨q0, o0, none⟩) 2 m0] 22, bx 5 #[.slice none 0 0] 152])
  ⟨fun f s W i j k l m a => opv rfl rfl (by simp [go_sem, a.e 3 k2_3]) rfl,
  fun f s W i j k l m a => opv rfl rfl (by simp [go_sem, a.e 18 (j 0 rfl)]) rfl,
  fun f s W i j k l m a => opv rfl rfl (by simp [go_sem, a.e 19 (j 1 rfl)]) rfl,
  fun f s W i j k l m a => opv rfl rfl (by simp [go_sem, a.e 20 (j 2 rfl), cb b2_0 i 4]) rfl,
  fun f s W i j k l m a => opr rfl rfl (by simp [go_sem, a.e 21 (j 3 rfl)]),
  fun f s W i j k l m a => opb rfl rfl (by simp [go_sem]), trivial⟩ ?_
 intro f3 s3 W3 hB3 g3 hg3 z3
 have fB3 := hB3.f (hB2.f (hB1.f fB0))
 have b3_0 := hB3.b b2_0
 have b3_1 := hB3.b (hB2.b br1_1)
 have b3_2 := hB3.b (hB2.b br1_2)
 obtain ⟨r3_4, br3_4⟩ := hB3.is 4
 have lr3_4 := hB3.lr 4 br3_4
 obtain ⟨r3_5, br3_5⟩ := hB3.is 5
 have lr3_5 := hB3.lr 5 br3_5
 have ne3_4_5 : s3 4 ≠ s3 5 := hB3.ne 4 5 (by decide) (by decide) (by decide) (fun _ _ _ h => ltb h.2) (fun _ _ _ h => ltb h.2)
 have k3_3 := kt hg3 3 k2_3
 have k3_22 := kt hg3 22 r3_4
 have k3_7 := kt hg3 7 r3_5
 obtain ⟨W4, hW4⟩ : ∃ W', W' = W3.setRow (s3 5) #[.slice (some ⟨(s3 4), 0, none⟩) (1) (1)] := ⟨_, rfl⟩
 refine tsk (o := _) rfl ⟨rfl, rfl⟩ (run_seg hW4 (fr_ev k3_7) (fr_ev k3_22) br3_5 rfl rfl rfl rfl) ?_
 obtain ⟨fB4, nb4, ot4, z4⟩ := sgf hW4 fB3 br3_5 (by omega)
 clear hW4
 have b4_0 := ot4 _ _ (by omega) b3_0
 have b4_1 := ot4 _ _ (by omega) b3_1
 have b4_2 := ot4 _ _ (by omega) b3_2
 have b4_3 := ot4 _ _ (by omega) br3_4
 refine wpe ?_
 refine hK5 _ _ ?_
 refine wp_seq_k fun K6 hK6 => ?_
 refine rw_ 5 [(23, 0), (24, 1), (25, 2), (26, 3), (27, 4)] [[], [0], [1], [2], [3]] (rel [is (.pointer (some ⟨(s1 0), 0, none⟩)), is (.pointer (some ⟨(s1 0), 0, none⟩)), is (.pointer (some ⟨(s1 0), 6, none⟩)), iB true, iB false])
  ⟨fun f s W i j k l m a => opv rfl rfl (by simp [go_sem, a.e 3 k3_3]) rfl,
  fun f s W i j k l m a => opv rfl rfl (by simp [go_sem, a.e 23 (j 0 rfl)]) rfl,
  fun f s W i j k l m a => opv rfl rfl (by simp [go_sem, a.e 24 (j 1 rfl)]) rfl,
  fun f s W i j k l m a => opv rfl rfl (by simp [go_sem, a.e 25 (j 2 rfl), cb b4_0 i 6]) rfl,
  fun f s W i j k l m a => opv rfl rfl (by simp [go_sem, a.e 26 (j 3 rfl)]) rfl, trivial⟩ ?_
 intro f5 s5 W5 hB5 g5 hg5 z5
 have k5_3 := kt hg5 3 k3_3
 have k5_4 := kt hg5 4 (kt hg3 4 (kt hg2 4 k1_4))
 have k5_5 := kt hg5 5 (kt hg3 5 (kt hg2 5 (kt hg1 5 r1_2)))
 have k5_7 := kt hg5 7 k3_7
 have k5_27 := kt hg5 27 (hB5.is 4)
 refine wp_cond_false ((fr_eval rfl).trans k5_27) ?_
 refine wp_skip ?_
 refine hK6 _ _ ?_
 refine rw_ 2 [(35, 0), (8, 1)] [[], [0]] (rel [is (.func (.func 96) #[] #[.pointer (some ⟨(s1 0), 0, none⟩), .pointer (some ⟨(s1 2), 0, none⟩), .pointer (some ⟨(s1 1), 0, none⟩), .pointer (some ⟨(s3 5), 0, none⟩)]), is (.func (.func 96) #[] #[.pointer (some ⟨(s1 0), 0, none⟩), .pointer (some ⟨(s1 2), 0, none⟩), .pointer (some ⟨(s1 1), 0, none⟩), .pointer (some ⟨(s3 5), 0, none⟩)])])
  ⟨fun f s W i j k l m a => opv rfl rfl (by simp [go_sem, a.e 3 k5_3, a.e 5 k5_5, a.e 4 k5_4, a.e 7 k5_7]) rfl,
  fun f s W i j k l m a => opm (a.v 35 (j 0 rfl)), trivial⟩ ?_
 intro f6 s6 W6 hB6 g6 hg6 z6
 refine wp_seq_k fun K10 hK10 => ?_
 refine rw_ 1 [(36, 0)] [[]] (rel [iI 0])
  ⟨fun f s W i j k l m a => opz, trivial⟩ ?_
 intro f7 s7 W7 hB7 g7 hg7 z7
 have k7_36 := kt hg7 36 (hB7.is 0)
 refine wp_block ?_
 refine wp_loop_rounds 5 ?_
 rw [rounds_succ]
 refine rw_ 1 [(37, 0)] [[]] (rel [iB true])
  ⟨fun f s W i j k l m a => opv rfl rfl (by simp [go_sem, a.e 36 k7_36]) rfl, trivial⟩ ?_
 intro f8 s8 W8 hB8 g8 hg8 z8
 have k8_36 := kt hg8 36 k7_36
 have k8_37 := kt hg8 37 (hB8.is 0)
 refine wp_seq_k fun K13 hK13 => ?_
 refine wp_cond_true ((fr_eval rfl).trans k8_37) ?_
 refine wp_skip ?_
 refine hK13 _ _ ?_
 refine wp_seq_k fun K15 hK15 => ?_
 refine wp_block ?_
 refine rw_ 2 [(38, 0), (9, 1)] [[], [0]] (rel [iI 0, iI 0])
  ⟨fun f s W i j k l m a => opm (a.v 36 k8_36),
  fun f s W i j k l m a => opm (a.v 38 (j 0 rfl)), trivial⟩ ?_
 intro f9 s9 W9 hB9 g9 hg9 z9
 have fB9 := hB9.f (hB8.f (hB7.f (hB6.f (hB5.f fB4))))
 have b9_0 := hB9.b (hB8.b (hB7.b (hB6.b (hB5.b b4_0))))
 have b9_1 := hB9.b (hB8.b (hB7.b (hB6.b (hB5.b b4_1))))
 have b9_2 := hB9.b (hB8.b (hB7.b (hB6.b (hB5.b b4_2))))
 have b9_3 := hB9.b (hB8.b (hB7.b (hB6.b (hB5.b b4_3))))
 have b9_4 := hB9.b (hB8.b (hB7.b (hB6.b (hB5.b nb4))))
 have k9_8 := kt hg9 8 (kt hg8 8 (kt hg7 8 (kt hg6 8 (hB6.is 1))))
 have k9_9 := kt hg9 9 (hB9.is 1)
 refine rw_ 4 [(39, 0), (40, 1), (41, 2), (42, 3)] [[], [], [0, 1], [2]] (rel [is (.func (.func 96) #[] #[.pointer (some ⟨(s1 0), 0, none⟩), .pointer (some ⟨(s1 2), 0, none⟩), .pointer (some ⟨(s1 1), 0, none⟩), .pointer (some ⟨(s3 5), 0, none⟩)]), iI 0, iB (someB 1 p0 off (fun p => okP ⟨(l1, h1), (l2, h2), (l3, h3), (l4, h4), (l5, h5), wo⟩ c off p [(v0, v1)] 0)), iB (!(someB 1 p0 off (fun p => okP ⟨(l1, h1), (l2, h2), (l3, h3), (l4, h4), (l5, h5), wo⟩ c off p [(v0, v1)] 0)))])
  ⟨fun f s W i j k l m a => opm (a.v 8 k9_8),
  fun f s W i j k l m a => opm (a.v 9 k9_9),
  fun f s W i j k l m a => by have q := bwt fB9 i; exact opc rfl rfl (by simp [go_sem, a.e 40 (j 1 rfl), a.e 39 (j 0 rfl)]) (closesI_0_1 (.int .i64 tab) (.int .i64 hh) (vtop) (.slice (some ⟨q0, o0, none⟩) 2 m0) (.int .i64 slot) (.bool true) l1 h1 l2 h2 l3 h3 l4 h4 l5 h5 wo hw c off p0 p1 p2 p3 v0 v1 q0 o0 m0 bp ox cp (s3 4) 1 (s1 0) (s1 2) (s1 1) (s3 5) W (hP.below q (Nat.le_refl _)) hpp (ltb (bwb b9_3 i)) (cb b9_3 i 0) (hI0.below q (Nat.le_refl _)) hv0 hv0' hv1 hv1' hc1 hc2 ho1 ho2 (bwb b9_0 i) (bwb b9_2 i) (bwb b9_1 i) (bwb b9_4 i)),
  fun f s W i j k l m a => opv rfl rfl (by simp [go_sem, a.e 41 (j 2 rfl)]) rfl, trivial⟩ ?_
 intro f10 s10 W10 hB10 g10 hg10 z10
 have fB10 := hB10.f fB9
 have k10_36 := kt hg10 36 (kt hg9 36 k8_36)
 have k10_42 := kt hg10 42 (hB10.is 3)
 refine wp_cond_split (t := !(someB 1 p0 off (fun p => okP ⟨(l1, h1), (l2, h2), (l3, h3), (l4, h4), (l5, h5), wo⟩ c off p [(v0, v1)] 0))) ((fr_eval rfl).trans k10_42) (fun hc18 => ?_) (fun hc18 => ?_)
 ·
  have hc18' := hc18; try simp only [ba] at hc18'
  refine rw_ 1 [(6, 0)] [[]] (rel [iB false])
   ⟨fun f s W i j k l m a => opz, trivial⟩ ?_
  intro f11 s11 W11 hB11 g11 hg11 z11
  have fB11 := hB11.f fB10
  have k11_6 := kt hg11 6 (hB11.is 0)
  refine wp_ret ?_
  refine inBlock_ret (then_ret (then_ret (inBlock_ret (then_ret ?_))))
  refine leave_one (N := 65) (.inr rfl) Tryz.results70 rfl k11_6 ?_
  have e : closesOf ⟨tab, [p0, p1, p2, p3], hh, tops, [v0, v1], slot, true⟩ ⟨(l1, h1), (l2, h2), (l3, h3), (l4, h4), (l5, h5), wo⟩ off c = ((true == wo) && (someB 1 p0 off (fun p => okP ⟨(l1, h1), (l2, h2), (l3, h3), (l4, h4), (l5, h5), wo⟩ c off p [(v0, v1)] 0) && (someB 1 p1 off (fun p => okP ⟨(l1, h1), (l2, h2), (l3, h3), (l4, h4), (l5, h5), wo⟩ c off p [(v0, v1)] 1) && (someB 1 p2 off (fun p => okP ⟨(l1, h1), (l2, h2), (l3, h3), (l4, h4), (l5, h5), wo⟩ c off p [(v0, v1)] 2) && (someB 1 p3 off (fun p => okP ⟨(l1, h1), (l2, h2), (l3, h3), (l4, h4), (l5, h5), wo⟩ c off p [(v0, v1)] 3) && (decide (c ≤ 1000 * min 20 (slot + off)) && someB 1 hh off fun n => isInOf n (foldsOf true) c (l3, h3))))))) := rfl
  have t0 := not_t hc18
  exact ⟨ret_bool (by rw [e]; simp only [ho, t0, Bool.true_and, Bool.false_and]), fB11⟩
 ·
  have hc18' := hc18; try simp only [ba] at hc18'
  refine wp_skip ?_
  refine ibn ?_
  refine hK15 _ _ ?_
  refine ry 2 [(43, 0), (36, 1)] [[], [0]] (rel [iI 1, iI 1])
   ⟨fun f s W i j k l m a => opv rfl rfl (by simp [go_sem, a.e 36 ((l 1 36 rfl rfl).trans k10_36), IntWalk.i64_in (1) (by omega)]) rfl,
  fun f s W i j k l m a => opm (a.v 43 (j 0 rfl)), trivial⟩ ?_
  intro f12 s12 W12 hB12 g12 hg12 z12
  refine wpe ?_
  have k12_36 := kt hg12 36 (hB12.is 1)
  refine then_normal ?_
  rw [rounds_succ]
  refine rw_ 1 [(37, 0)] [[]] (rel [iB true])
   ⟨fun f s W i j k l m a => opv rfl rfl (by simp [go_sem, a.e 36 k12_36]) rfl, trivial⟩ ?_
  intro f13 s13 W13 hB13 g13 hg13 z13
  have k13_36 := kt hg13 36 k12_36
  have k13_37 := kt hg13 37 (hB13.is 0)
  refine wp_seq_k fun K21 hK21 => ?_
  refine wp_cond_true ((fr_eval rfl).trans k13_37) ?_
  refine wp_skip ?_
  refine hK21 _ _ ?_
  refine wp_seq_k fun K23 hK23 => ?_
  refine wp_block ?_
  refine rw_ 2 [(38, 0), (9, 1)] [[], [0]] (rel [iI 1, iI 1])
   ⟨fun f s W i j k l m a => opm (a.v 36 k13_36),
  fun f s W i j k l m a => opm (a.v 38 (j 0 rfl)), trivial⟩ ?_
  intro f14 s14 W14 hB14 g14 hg14 z14
  have fB14 := hB14.f (hB13.f (hB12.f fB10))
  have b14_0 := hB14.b (hB13.b (hB12.b (hB10.b b9_0)))
  have b14_1 := hB14.b (hB13.b (hB12.b (hB10.b b9_1)))
  have b14_2 := hB14.b (hB13.b (hB12.b (hB10.b b9_2)))
  have b14_3 := hB14.b (hB13.b (hB12.b (hB10.b b9_3)))
  have b14_4 := hB14.b (hB13.b (hB12.b (hB10.b b9_4)))
  have k14_8 := kt hg14 8 (kt hg13 8 (kt hg12 8 (kt hg10 8 k9_8)))
  have k14_9 := kt hg14 9 (hB14.is 1)
  refine rw_ 4 [(39, 0), (40, 1), (41, 2), (42, 3)] [[], [], [0, 1], [2]] (rel [is (.func (.func 96) #[] #[.pointer (some ⟨(s1 0), 0, none⟩), .pointer (some ⟨(s1 2), 0, none⟩), .pointer (some ⟨(s1 1), 0, none⟩), .pointer (some ⟨(s3 5), 0, none⟩)]), iI 1, iB (someB 1 p1 off (fun p => okP ⟨(l1, h1), (l2, h2), (l3, h3), (l4, h4), (l5, h5), wo⟩ c off p [(v0, v1)] 1)), iB (!(someB 1 p1 off (fun p => okP ⟨(l1, h1), (l2, h2), (l3, h3), (l4, h4), (l5, h5), wo⟩ c off p [(v0, v1)] 1)))])
   ⟨fun f s W i j k l m a => opm (a.v 8 k14_8),
  fun f s W i j k l m a => opm (a.v 9 k14_9),
  fun f s W i j k l m a => by have q := bwt fB14 i; exact opc rfl rfl (by simp [go_sem, a.e 40 (j 1 rfl), a.e 39 (j 0 rfl)]) (closesI_1_1 (.int .i64 tab) (.int .i64 hh) (vtop) (.slice (some ⟨q0, o0, none⟩) 2 m0) (.int .i64 slot) (.bool true) l1 h1 l2 h2 l3 h3 l4 h4 l5 h5 wo hw c off p0 p1 p2 p3 v0 v1 q0 o0 m0 bp ox cp (s3 4) 1 (s1 0) (s1 2) (s1 1) (s3 5) W (hP.below q (Nat.le_refl _)) hpp (ltb (bwb b14_3 i)) (cb b14_3 i 0) (hI0.below q (Nat.le_refl _)) hv0 hv0' hv1 hv1' hc1 hc2 ho1 ho2 (bwb b14_0 i) (bwb b14_2 i) (bwb b14_1 i) (bwb b14_4 i)),
  fun f s W i j k l m a => opv rfl rfl (by simp [go_sem, a.e 41 (j 2 rfl)]) rfl, trivial⟩ ?_
  intro f15 s15 W15 hB15 g15 hg15 z15
  have fB15 := hB15.f fB14
  have k15_36 := kt hg15 36 (kt hg14 36 k13_36)
  have k15_42 := kt hg15 42 (hB15.is 3)
  refine wp_cond_split (t := !(someB 1 p1 off (fun p => okP ⟨(l1, h1), (l2, h2), (l3, h3), (l4, h4), (l5, h5), wo⟩ c off p [(v0, v1)] 1))) ((fr_eval rfl).trans k15_42) (fun hc26 => ?_) (fun hc26 => ?_)
  ·
   have hc26' := hc26; try simp only [ba] at hc26'
   refine rw_ 1 [(6, 0)] [[]] (rel [iB false])
    ⟨fun f s W i j k l m a => opz, trivial⟩ ?_
   intro f16 s16 W16 hB16 g16 hg16 z16
   have fB16 := hB16.f fB15
   have k16_6 := kt hg16 6 (hB16.is 0)
   refine wp_ret ?_
   refine inBlock_ret (then_ret (then_ret (inBlock_ret (then_ret ?_))))
   refine leave_one (N := 65) (.inr rfl) Tryz.results70 rfl k16_6 ?_
   have e : closesOf ⟨tab, [p0, p1, p2, p3], hh, tops, [v0, v1], slot, true⟩ ⟨(l1, h1), (l2, h2), (l3, h3), (l4, h4), (l5, h5), wo⟩ off c = ((true == wo) && (someB 1 p0 off (fun p => okP ⟨(l1, h1), (l2, h2), (l3, h3), (l4, h4), (l5, h5), wo⟩ c off p [(v0, v1)] 0) && (someB 1 p1 off (fun p => okP ⟨(l1, h1), (l2, h2), (l3, h3), (l4, h4), (l5, h5), wo⟩ c off p [(v0, v1)] 1) && (someB 1 p2 off (fun p => okP ⟨(l1, h1), (l2, h2), (l3, h3), (l4, h4), (l5, h5), wo⟩ c off p [(v0, v1)] 2) && (someB 1 p3 off (fun p => okP ⟨(l1, h1), (l2, h2), (l3, h3), (l4, h4), (l5, h5), wo⟩ c off p [(v0, v1)] 3) && (decide (c ≤ 1000 * min 20 (slot + off)) && someB 1 hh off fun n => isInOf n (foldsOf true) c (l3, h3))))))) := rfl
   have t0 := not_f hc18
   have t1 := not_t hc26
   exact ⟨ret_bool (by rw [e]; simp only [ho, t0, t1, Bool.true_and, Bool.false_and]), fB16⟩
  ·
   have hc26' := hc26; try simp only [ba] at hc26'
   refine wp_skip ?_
   refine ibn ?_
   refine hK23 _ _ ?_
   refine ry 2 [(43, 0), (36, 1)] [[], [0]] (rel [iI 2, iI 2])
    ⟨fun f s W i j k l m a => opv rfl rfl (by simp [go_sem, a.e 36 ((l 1 36 rfl rfl).trans k15_36), IntWalk.i64_in (2) (by omega)]) rfl,
  fun f s W i j k l m a => opm (a.v 43 (j 0 rfl)), trivial⟩ ?_
   intro f17 s17 W17 hB17 g17 hg17 z17
   refine wpe ?_
   have k17_36 := kt hg17 36 (hB17.is 1)
   refine then_normal ?_
   rw [rounds_succ]
   refine rw_ 1 [(37, 0)] [[]] (rel [iB true])
    ⟨fun f s W i j k l m a => opv rfl rfl (by simp [go_sem, a.e 36 k17_36]) rfl, trivial⟩ ?_
   intro f18 s18 W18 hB18 g18 hg18 z18
   have fB18 := hB18.f (hB17.f fB15)
   have b18_0 := hB18.b (hB17.b (hB15.b b14_0))
   have b18_1 := hB18.b (hB17.b (hB15.b b14_1))
   have b18_2 := hB18.b (hB17.b (hB15.b b14_2))
   have b18_3 := hB18.b (hB17.b (hB15.b b14_3))
   have b18_4 := hB18.b (hB17.b (hB15.b b14_4))
   have k18_3 := kt hg18 3 (kt hg17 3 (kt hg15 3 (kt hg14 3 (kt hg13 3 (kt hg12 3 (kt hg10 3 (kt hg9 3 (kt hg8 3 (kt hg7 3 (kt hg6 3 k5_3))))))))))
   have k18_4 := kt hg18 4 (kt hg17 4 (kt hg15 4 (kt hg14 4 (kt hg13 4 (kt hg12 4 (kt hg10 4 (kt hg9 4 (kt hg8 4 (kt hg7 4 (kt hg6 4 k5_4))))))))))
   have k18_5 := kt hg18 5 (kt hg17 5 (kt hg15 5 (kt hg14 5 (kt hg13 5 (kt hg12 5 (kt hg10 5 (kt hg9 5 (kt hg8 5 (kt hg7 5 (kt hg6 5 k5_5))))))))))
   have k18_8 := kt hg18 8 (kt hg17 8 (kt hg15 8 k14_8))
   have k18_36 := kt hg18 36 k17_36
   have k18_37 := kt hg18 37 (hB18.is 0)
   refine wp_seq_k fun K29 hK29 => ?_
   refine wp_cond_true ((fr_eval rfl).trans k18_37) ?_
   refine wp_skip ?_
   refine hK29 _ _ ?_
   refine wp_seq_k fun K31 hK31 => ?_
   refine wp_block ?_
   refine rw_ 2 [(38, 0), (9, 1)] [[], [0]] (rel [iI 2, iI 2])
    ⟨fun f s W i j k l m a => opm (a.v 36 k18_36),
  fun f s W i j k l m a => opm (a.v 38 (j 0 rfl)), trivial⟩ ?_
   intro f19 s19 W19 hB19 g19 hg19 z19
   have fB19 := hB19.f fB18
   have b19_0 := hB19.b b18_0
   have b19_1 := hB19.b b18_1
   have b19_2 := hB19.b b18_2
   have b19_3 := hB19.b b18_3
   have b19_4 := hB19.b b18_4
   have k19_3 := kt hg19 3 k18_3
   have k19_4 := kt hg19 4 k18_4
   have k19_5 := kt hg19 5 k18_5
   have k19_8 := kt hg19 8 k18_8
   have k19_36 := kt hg19 36 k18_36
   have k19_9 := kt hg19 9 (hB19.is 1)
   refine rw_ 4 [(39, 0), (40, 1), (41, 2), (42, 3)] [[], [], [0, 1], [2]] (rel [is (.func (.func 96) #[] #[.pointer (some ⟨(s1 0), 0, none⟩), .pointer (some ⟨(s1 2), 0, none⟩), .pointer (some ⟨(s1 1), 0, none⟩), .pointer (some ⟨(s3 5), 0, none⟩)]), iI 2, iB (someB 1 p2 off (fun p => okP ⟨(l1, h1), (l2, h2), (l3, h3), (l4, h4), (l5, h5), wo⟩ c off p [(v0, v1)] 2)), iB (!(someB 1 p2 off (fun p => okP ⟨(l1, h1), (l2, h2), (l3, h3), (l4, h4), (l5, h5), wo⟩ c off p [(v0, v1)] 2)))])
    ⟨fun f s W i j k l m a => opm (a.v 8 k19_8),
  fun f s W i j k l m a => opm (a.v 9 k19_9),
  fun f s W i j k l m a => by have q := bwt fB19 i; exact opc rfl rfl (by simp [go_sem, a.e 40 (j 1 rfl), a.e 39 (j 0 rfl)]) (closesI_2_1 (.int .i64 tab) (.int .i64 hh) (vtop) (.slice (some ⟨q0, o0, none⟩) 2 m0) (.int .i64 slot) (.bool true) l1 h1 l2 h2 l3 h3 l4 h4 l5 h5 wo hw c off p0 p1 p2 p3 v0 v1 q0 o0 m0 bp ox cp (s3 4) 1 (s1 0) (s1 2) (s1 1) (s3 5) W (hP.below q (Nat.le_refl _)) hpp (ltb (bwb b19_3 i)) (cb b19_3 i 0) (hI0.below q (Nat.le_refl _)) hv0 hv0' hv1 hv1' hc1 hc2 ho1 ho2 (bwb b19_0 i) (bwb b19_2 i) (bwb b19_1 i) (bwb b19_4 i)),
  fun f s W i j k l m a => opv rfl rfl (by simp [go_sem, a.e 41 (j 2 rfl)]) rfl, trivial⟩ ?_
   intro f20 s20 W20 hB20 g20 hg20 z20
   have fB20 := hB20.f fB19
   have b20_0 := hB20.b b19_0
   have b20_1 := hB20.b b19_1
   have b20_2 := hB20.b b19_2
   have b20_3 := hB20.b b19_3
   have b20_4 := hB20.b b19_4
   have k20_3 := kt hg20 3 k19_3
   have k20_4 := kt hg20 4 k19_4
   have k20_5 := kt hg20 5 k19_5
   have k20_8 := kt hg20 8 k19_8
   have k20_36 := kt hg20 36 k19_36
   have k20_42 := kt hg20 42 (hB20.is 3)
   refine wp_cond_split (t := !(someB 1 p2 off (fun p => okP ⟨(l1, h1), (l2, h2), (l3, h3), (l4, h4), (l5, h5), wo⟩ c off p [(v0, v1)] 2))) ((fr_eval rfl).trans k20_42) (fun hc34 => ?_) (fun hc34 => ?_)
   ·
    have hc34' := hc34; try simp only [ba] at hc34'
    refine rw_ 1 [(6, 0)] [[]] (rel [iB false])
     ⟨fun f s W i j k l m a => opz, trivial⟩ ?_
    intro f21 s21 W21 hB21 g21 hg21 z21
    have fB21 := hB21.f fB20
    have k21_6 := kt hg21 6 (hB21.is 0)
    refine wp_ret ?_
    refine inBlock_ret (then_ret (then_ret (inBlock_ret (then_ret ?_))))
    refine leave_one (N := 65) (.inr rfl) Tryz.results70 rfl k21_6 ?_
    have e : closesOf ⟨tab, [p0, p1, p2, p3], hh, tops, [v0, v1], slot, true⟩ ⟨(l1, h1), (l2, h2), (l3, h3), (l4, h4), (l5, h5), wo⟩ off c = ((true == wo) && (someB 1 p0 off (fun p => okP ⟨(l1, h1), (l2, h2), (l3, h3), (l4, h4), (l5, h5), wo⟩ c off p [(v0, v1)] 0) && (someB 1 p1 off (fun p => okP ⟨(l1, h1), (l2, h2), (l3, h3), (l4, h4), (l5, h5), wo⟩ c off p [(v0, v1)] 1) && (someB 1 p2 off (fun p => okP ⟨(l1, h1), (l2, h2), (l3, h3), (l4, h4), (l5, h5), wo⟩ c off p [(v0, v1)] 2) && (someB 1 p3 off (fun p => okP ⟨(l1, h1), (l2, h2), (l3, h3), (l4, h4), (l5, h5), wo⟩ c off p [(v0, v1)] 3) && (decide (c ≤ 1000 * min 20 (slot + off)) && someB 1 hh off fun n => isInOf n (foldsOf true) c (l3, h3))))))) := rfl
    have t0 := not_f hc18
    have t1 := not_f hc26
    have t2 := not_t hc34
    exact ⟨ret_bool (by rw [e]; simp only [ho, t0, t1, t2, Bool.true_and, Bool.false_and]), fB21⟩
   ·
    have hc34' := hc34; try simp only [ba] at hc34'
    refine wp_skip ?_
    refine ibn ?_
    refine hK31 _ _ ?_
    refine ry 2 [(43, 0), (36, 1)] [[], [0]] (rel [iI 3, iI 3])
     ⟨fun f s W i j k l m a => opv rfl rfl (by simp [go_sem, a.e 36 ((l 1 36 rfl rfl).trans k20_36), IntWalk.i64_in (3) (by omega)]) rfl,
  fun f s W i j k l m a => opm (a.v 43 (j 0 rfl)), trivial⟩ ?_
    intro f22 s22 W22 hB22 g22 hg22 z22
    refine wpe ?_
    have k22_36 := kt hg22 36 (hB22.is 1)
    refine then_normal ?_
    rw [rounds_succ]
    refine rw_ 1 [(37, 0)] [[]] (rel [iB true])
     ⟨fun f s W i j k l m a => opv rfl rfl (by simp [go_sem, a.e 36 k22_36]) rfl, trivial⟩ ?_
    intro f23 s23 W23 hB23 g23 hg23 z23
    have fB23 := hB23.f (hB22.f fB20)
    have b23_0 := hB23.b (hB22.b b20_0)
    have b23_1 := hB23.b (hB22.b b20_1)
    have b23_2 := hB23.b (hB22.b b20_2)
    have b23_3 := hB23.b (hB22.b b20_3)
    have b23_4 := hB23.b (hB22.b b20_4)
    have k23_3 := kt hg23 3 (kt hg22 3 k20_3)
    have k23_4 := kt hg23 4 (kt hg22 4 k20_4)
    have k23_5 := kt hg23 5 (kt hg22 5 k20_5)
    have k23_8 := kt hg23 8 (kt hg22 8 k20_8)
    have k23_36 := kt hg23 36 k22_36
    have k23_37 := kt hg23 37 (hB23.is 0)
    refine wp_seq_k fun K37 hK37 => ?_
    refine wp_cond_true ((fr_eval rfl).trans k23_37) ?_
    refine wp_skip ?_
    refine hK37 _ _ ?_
    refine wp_seq_k fun K39 hK39 => ?_
    refine wp_block ?_
    refine rw_ 2 [(38, 0), (9, 1)] [[], [0]] (rel [iI 3, iI 3])
     ⟨fun f s W i j k l m a => opm (a.v 36 k23_36),
  fun f s W i j k l m a => opm (a.v 38 (j 0 rfl)), trivial⟩ ?_
    intro f24 s24 W24 hB24 g24 hg24 z24
    have fB24 := hB24.f fB23
    have b24_0 := hB24.b b23_0
    have b24_1 := hB24.b b23_1
    have b24_2 := hB24.b b23_2
    have b24_3 := hB24.b b23_3
    have b24_4 := hB24.b b23_4
    have k24_3 := kt hg24 3 k23_3
    have k24_4 := kt hg24 4 k23_4
    have k24_5 := kt hg24 5 k23_5
    have k24_8 := kt hg24 8 k23_8
    have k24_36 := kt hg24 36 k23_36
    have k24_9 := kt hg24 9 (hB24.is 1)
    refine rw_ 4 [(39, 0), (40, 1), (41, 2), (42, 3)] [[], [], [0, 1], [2]] (rel [is (.func (.func 96) #[] #[.pointer (some ⟨(s1 0), 0, none⟩), .pointer (some ⟨(s1 2), 0, none⟩), .pointer (some ⟨(s1 1), 0, none⟩), .pointer (some ⟨(s3 5), 0, none⟩)]), iI 3, iB (someB 1 p3 off (fun p => okP ⟨(l1, h1), (l2, h2), (l3, h3), (l4, h4), (l5, h5), wo⟩ c off p [(v0, v1)] 3)), iB (!(someB 1 p3 off (fun p => okP ⟨(l1, h1), (l2, h2), (l3, h3), (l4, h4), (l5, h5), wo⟩ c off p [(v0, v1)] 3)))])
     ⟨fun f s W i j k l m a => opm (a.v 8 k24_8),
  fun f s W i j k l m a => opm (a.v 9 k24_9),
  fun f s W i j k l m a => by have q := bwt fB24 i; exact opc rfl rfl (by simp [go_sem, a.e 40 (j 1 rfl), a.e 39 (j 0 rfl)]) (closesI_3_1 (.int .i64 tab) (.int .i64 hh) (vtop) (.slice (some ⟨q0, o0, none⟩) 2 m0) (.int .i64 slot) (.bool true) l1 h1 l2 h2 l3 h3 l4 h4 l5 h5 wo hw c off p0 p1 p2 p3 v0 v1 q0 o0 m0 bp ox cp (s3 4) 1 (s1 0) (s1 2) (s1 1) (s3 5) W (hP.below q (Nat.le_refl _)) hpp (ltb (bwb b24_3 i)) (cb b24_3 i 0) (hI0.below q (Nat.le_refl _)) hv0 hv0' hv1 hv1' hc1 hc2 ho1 ho2 (bwb b24_0 i) (bwb b24_2 i) (bwb b24_1 i) (bwb b24_4 i)),
  fun f s W i j k l m a => opv rfl rfl (by simp [go_sem, a.e 41 (j 2 rfl)]) rfl, trivial⟩ ?_
    intro f25 s25 W25 hB25 g25 hg25 z25
    have fB25 := hB25.f fB24
    have b25_0 := hB25.b b24_0
    have b25_1 := hB25.b b24_1
    have b25_2 := hB25.b b24_2
    have k25_3 := kt hg25 3 k24_3
    have k25_4 := kt hg25 4 k24_4
    have k25_5 := kt hg25 5 k24_5
    have k25_36 := kt hg25 36 k24_36
    have k25_42 := kt hg25 42 (hB25.is 3)
    refine wp_cond_split (t := !(someB 1 p3 off (fun p => okP ⟨(l1, h1), (l2, h2), (l3, h3), (l4, h4), (l5, h5), wo⟩ c off p [(v0, v1)] 3))) ((fr_eval rfl).trans k25_42) (fun hc42 => ?_) (fun hc42 => ?_)
    ·
     have hc42' := hc42; try simp only [ba] at hc42'
     refine rw_ 1 [(6, 0)] [[]] (rel [iB false])
      ⟨fun f s W i j k l m a => opz, trivial⟩ ?_
     intro f26 s26 W26 hB26 g26 hg26 z26
     have fB26 := hB26.f fB25
     have k26_6 := kt hg26 6 (hB26.is 0)
     refine wp_ret ?_
     refine inBlock_ret (then_ret (then_ret (inBlock_ret (then_ret ?_))))
     refine leave_one (N := 65) (.inr rfl) Tryz.results70 rfl k26_6 ?_
     have e : closesOf ⟨tab, [p0, p1, p2, p3], hh, tops, [v0, v1], slot, true⟩ ⟨(l1, h1), (l2, h2), (l3, h3), (l4, h4), (l5, h5), wo⟩ off c = ((true == wo) && (someB 1 p0 off (fun p => okP ⟨(l1, h1), (l2, h2), (l3, h3), (l4, h4), (l5, h5), wo⟩ c off p [(v0, v1)] 0) && (someB 1 p1 off (fun p => okP ⟨(l1, h1), (l2, h2), (l3, h3), (l4, h4), (l5, h5), wo⟩ c off p [(v0, v1)] 1) && (someB 1 p2 off (fun p => okP ⟨(l1, h1), (l2, h2), (l3, h3), (l4, h4), (l5, h5), wo⟩ c off p [(v0, v1)] 2) && (someB 1 p3 off (fun p => okP ⟨(l1, h1), (l2, h2), (l3, h3), (l4, h4), (l5, h5), wo⟩ c off p [(v0, v1)] 3) && (decide (c ≤ 1000 * min 20 (slot + off)) && someB 1 hh off fun n => isInOf n (foldsOf true) c (l3, h3))))))) := rfl
     have t0 := not_f hc18
     have t1 := not_f hc26
     have t2 := not_f hc34
     have t3 := not_t hc42
     exact ⟨ret_bool (by rw [e]; simp only [ho, t0, t1, t2, t3, Bool.true_and, Bool.false_and]), fB26⟩
    ·
     have hc42' := hc42; try simp only [ba] at hc42'
     refine wp_skip ?_
     refine ibn ?_
     refine hK39 _ _ ?_
     refine ry 2 [(43, 0), (36, 1)] [[], [0]] (rel [iI 4, iI 4])
      ⟨fun f s W i j k l m a => opv rfl rfl (by simp [go_sem, a.e 36 ((l 1 36 rfl rfl).trans k25_36), IntWalk.i64_in (4) (by omega)]) rfl,
  fun f s W i j k l m a => opm (a.v 43 (j 0 rfl)), trivial⟩ ?_
     intro f27 s27 W27 hB27 g27 hg27 z27
     refine wpe ?_
     have k27_36 := kt hg27 36 (hB27.is 1)
     refine then_normal ?_
     rw [rounds_succ]
     refine rw_ 1 [(37, 0)] [[]] (rel [iB false])
      ⟨fun f s W i j k l m a => opv rfl rfl (by simp [go_sem, a.e 36 k27_36]) rfl, trivial⟩ ?_
     intro f28 s28 W28 hB28 g28 hg28 z28
     have fB28 := hB28.f (hB27.f fB25)
     have b28_0 := hB28.b (hB27.b b25_0)
     have b28_1 := hB28.b (hB27.b b25_1)
     have b28_2 := hB28.b (hB27.b b25_2)
     have k28_3 := kt hg28 3 (kt hg27 3 k25_3)
     have k28_4 := kt hg28 4 (kt hg27 4 k25_4)
     have k28_5 := kt hg28 5 (kt hg27 5 k25_5)
     have k28_37 := kt hg28 37 (hB28.is 0)
     refine wp_seq_k fun K45 hK45 => ?_
     refine wp_cond_false ((fr_eval rfl).trans k28_37) ?_
     refine wp_exit ?_
     refine then_exit ?_
     refine then_exit ?_
     refine inBlock_at ?_
     refine hK10 _ _ ?_
     refine rw_ 9 [(44, 0), (45, 1), (46, 2), (47, 3), (48, 4), (49, 5), (50, 6), (51, 7), (10, 8)] [[], [0], [1], [2], [], [4], [3, 5], [6], [7]] (rel [is (.pointer (some ⟨(s1 0), 0, none⟩)), is (.pointer (some ⟨(s1 0), 0, none⟩)), is (.pointer (some ⟨(s1 0), 5, none⟩)), iI slot, is (.pointer (some ⟨(s1 0), 7, none⟩)), iI off, iI (slot + off), iI (min 20 (slot + off)), iI (min 20 (slot + off))])
      ⟨fun f s W i j k l m a => opv rfl rfl (by simp [go_sem, a.e 3 k28_3]) rfl,
  fun f s W i j k l m a => opv rfl rfl (by simp [go_sem, a.e 44 (j 0 rfl)]) rfl,
  fun f s W i j k l m a => opv rfl rfl (by simp [go_sem, a.e 45 (j 1 rfl)]) rfl,
  fun f s W i j k l m a => opv rfl rfl (by simp [go_sem, a.e 46 (j 2 rfl), cb b28_0 i 5]) rfl,
  fun f s W i j k l m a => opv rfl rfl (by simp [go_sem, a.e 3 k28_3]) rfl,
  fun f s W i j k l m a => opv rfl rfl (by simp [go_sem, a.e 48 (j 4 rfl), cb b28_0 i 7]) rfl,
  fun f s W i j k l m a => opv rfl rfl (by simp [go_sem, a.e 47 (j 3 rfl), a.e 49 (j 5 rfl), IntWalk.i64_in (slot + off) (by omega)]) rfl,
  fun f s W i j k l m a => opv rfl rfl (by simp [go_sem, a.e 50 (j 6 rfl)]) rfl,
  fun f s W i j k l m a => opm (a.v 51 (j 7 rfl)), trivial⟩ ?_
     intro f29 s29 W29 hB29 g29 hg29 z29
     have fB29 := hB29.f fB28
     have b29_0 := hB29.b b28_0
     have b29_1 := hB29.b b28_1
     have b29_2 := hB29.b b28_2
     have k29_3 := kt hg29 3 k28_3
     have k29_4 := kt hg29 4 k28_4
     have k29_5 := kt hg29 5 k28_5
     have k29_10 := kt hg29 10 (hB29.is 8)
     refine rw_ 14 [(52, 0), (53, 1), (54, 2), (55, 3), (56, 4), (57, 5), (58, 6), (59, 7), (60, 8), (61, 9), (62, 10), (63, 11), (64, 12), (6, 13)] [[], [0], [], [1, 2], [3], [4], [4], [4, 6], [4, 7], [4, 8], [4], [4, 5, 9, 10], [4, 11], [12]] (rel [iI (min 20 (slot + off)), iI (1000 * (min 20 (slot + off))), iI c, iB (decide (c ≤ (1000 * (min 20 (slot + off))))), iB (decide (c ≤ (1000 * (min 20 (slot + off))))), gd (decide (c ≤ (1000 * (min 20 (slot + off))))) true (is (.agg #[.int .i64 tab, .slice (some ⟨bp, ox, none⟩) 4 cp, .int .i64 hh, vtop, .slice (some ⟨q0, o0, none⟩) 2 m0, .int .i64 slot, .bool true, .int .i64 off])), gd (decide (c ≤ (1000 * (min 20 (slot + off))))) true (is (.pointer (some ⟨(s1 0), 0, none⟩))), gd (decide (c ≤ (1000 * (min 20 (slot + off))))) true (is (.pointer (some ⟨(s1 0), 0, none⟩))), gd (decide (c ≤ (1000 * (min 20 (slot + off))))) true (is (.pointer (some ⟨(s1 0), 2, none⟩))), gd (decide (c ≤ (1000 * (min 20 (slot + off))))) true (iI hh), gd (decide (c ≤ (1000 * (min 20 (slot + off))))) true (is (.func (.func 103) #[] #[.pointer (some ⟨(s1 0), 0, none⟩), .pointer (some ⟨(s1 2), 0, none⟩), .pointer (some ⟨(s1 1), 0, none⟩)])), gd (decide (c ≤ (1000 * (min 20 (slot + off))))) true (iB (someB 1 hh off (fun n => isInOf n (foldsOf true) c (l3, h3)))), iB ((decide (c ≤ (1000 * (min 20 (slot + off))))) && (someB 1 hh off (fun n => isInOf n (foldsOf true) c (l3, h3)))), iB ((decide (c ≤ (1000 * (min 20 (slot + off))))) && (someB 1 hh off (fun n => isInOf n (foldsOf true) c (l3, h3))))])
      ⟨fun f s W i j k l m a => opm (a.v 10 k29_10),
  fun f s W i j k l m a => opv rfl rfl (by simp [go_sem, a.e 52 (j 0 rfl), IntWalk.i64_in (1000 * (min 20 (slot + off))) (by omega)]) rfl,
  fun f s W i j k l m a => opv rfl rfl (by simp [go_sem, a.e 5 k29_5, cb b29_2 i 0]) rfl,
  fun f s W i j k l m a => opv rfl rfl (by simp [go_sem, a.e 53 (j 1 rfl), a.e 54 (j 2 rfl)]) rfl,
  fun f s W i j k l m a => opm (a.v 55 (j 3 rfl)),
  fun f s W i j k l m a => gdo rfl rfl (a.says (d := 56) rfl rfl (j 4 rfl)) fun hgd0 => gv (by simp [go_sem, a.e 3 k29_3, cb b29_0 i 0, cb b29_0 i 1, cb b29_0 i 2, cb b29_0 i 3, cb b29_0 i 4, cb b29_0 i 5, cb b29_0 i 6, cb b29_0 i 7]) rfl,
  fun f s W i j k l m a => gdo rfl rfl (a.says (d := 56) rfl rfl (j 4 rfl)) fun hgd0 => gv (by simp [go_sem, a.e 3 k29_3]) rfl,
  fun f s W i j k l m a => gdo rfl rfl (a.says (d := 56) rfl rfl (j 4 rfl)) fun hgd0 => gv (by simp [go_sem, a.e 58 ((j 6 rfl).1 hgd0)]) rfl,
  fun f s W i j k l m a => gdo rfl rfl (a.says (d := 56) rfl rfl (j 4 rfl)) fun hgd0 => gv (by simp [go_sem, a.e 59 ((j 7 rfl).1 hgd0)]) rfl,
  fun f s W i j k l m a => gdo rfl rfl (a.says (d := 56) rfl rfl (j 4 rfl)) fun hgd0 => gv (by simp [go_sem, a.e 60 ((j 8 rfl).1 hgd0), cb b29_0 i 2]) rfl,
  fun f s W i j k l m a => gdo rfl rfl (a.says (d := 56) rfl rfl (j 4 rfl)) fun hgd0 => gv (by simp [go_sem, a.e 3 k29_3, a.e 5 k29_5, a.e 4 k29_4]) rfl,
  fun f s W i j k l m a => gdo rfl rfl (a.says (d := 56) rfl rfl (j 4 rfl)) fun hgd0 => gc (args := #[.agg #[.int .i64 tab, .slice (some ⟨bp, ox, none⟩) 4 cp, .int .i64 hh, vtop, .slice (some ⟨q0, o0, none⟩) 2 m0, .int .i64 slot, .bool true, .int .i64 off], .int .i64 1, .int .i64 hh, .func (.func 103) #[] #[.pointer (some ⟨(s1 0), 0, none⟩), .pointer (some ⟨(s1 2), 0, none⟩), .pointer (some ⟨(s1 1), 0, none⟩)]]) (by simp [go_sem, a.e 57 ((j 5 rfl).1 hgd0), a.e 61 ((j 9 rfl).1 hgd0), a.e 62 ((j 10 rfl).1 hgd0)]) (some_any (.int .i64 tab) (.slice (some ⟨bp, ox, none⟩) 4 cp) (.int .i64 hh) (vtop) (.slice (some ⟨q0, o0, none⟩) 2 m0) (.int .i64 slot) (.bool true) off 1 hh 103 #[.pointer (some ⟨(s1 0), 0, none⟩), .pointer (some ⟨(s1 2), 0, none⟩), .pointer (some ⟨(s1 1), 0, none⟩)] (fun n => isInOf n (foldsOf true) c (l3, h3)) W (by omega) (by omega) (by omega) (by omega) (by omega) (by omega) (fun _ _ => by simp [go_sem]) (fun x y1 y2 W' hb' => closes2_any l1 h1 l2 h2 l3 h3 l4 h4 l5 h5 wo hw x c tab hh slot off (.slice (some ⟨bp, ox, none⟩) 4 cp) (vtop) (.slice (some ⟨q0, o0, none⟩) 2 m0) true (s1 0) (s1 2) (s1 1) W' (by unfold loOf at y1; omega) (by unfold hiOf at y2; omega) hc1 hc2 (bwb (bwb b29_0 i) hb') (bwb (bwb b29_2 i) hb') (bwb (bwb b29_1 i) hb'))),
  fun f s W i j k l m a => opk (c := decide (c ≤ (1000 * (min 20 (slot + off))))) rfl rfl (fun hpk => by first | (simp [go_sem, hpk, a.e 56 (j 4 rfl)]; done) | (have hpk' := hpk; simp at hpk'; simp [go_sem, hpk', hpk, a.e 56 (j 4 rfl)])) (fun hpk => by first | (simp [go_sem, hpk, a.e 56 (j 4 rfl), a.e 63 ((j 11 rfl).1 hpk)]; done) | (have hpk' := hpk; simp at hpk'; simp [go_sem, hpk', hpk, a.e 56 (j 4 rfl), a.e 63 ((j 11 rfl).1 hpk)])),
  fun f s W i j k l m a => opm (a.v 64 (j 12 rfl)), trivial⟩ ?_
     intro f30 s30 W30 hB30 g30 hg30 z30
     have fB30 := hB30.f fB29
     have k30_6 := kt hg30 6 (hB30.is 13)
     refine wp_ret ?_
     refine leave_one (N := 65) (v := .bool ((decide (c ≤ (1000 * (min 20 (slot + off))))) && (someB 1 hh off (fun n => isInOf n (foldsOf true) c (l3, h3))))) (.inr rfl) Tryz.results70 rfl k30_6 ?_
     have e : closesOf ⟨tab, [p0, p1, p2, p3], hh, tops, [v0, v1], slot, true⟩ ⟨(l1, h1), (l2, h2), (l3, h3), (l4, h4), (l5, h5), wo⟩ off c = ((true == wo) && (someB 1 p0 off (fun p => okP ⟨(l1, h1), (l2, h2), (l3, h3), (l4, h4), (l5, h5), wo⟩ c off p [(v0, v1)] 0) && (someB 1 p1 off (fun p => okP ⟨(l1, h1), (l2, h2), (l3, h3), (l4, h4), (l5, h5), wo⟩ c off p [(v0, v1)] 1) && (someB 1 p2 off (fun p => okP ⟨(l1, h1), (l2, h2), (l3, h3), (l4, h4), (l5, h5), wo⟩ c off p [(v0, v1)] 2) && (someB 1 p3 off (fun p => okP ⟨(l1, h1), (l2, h2), (l3, h3), (l4, h4), (l5, h5), wo⟩ c off p [(v0, v1)] 3) && (decide (c ≤ 1000 * min 20 (slot + off)) && someB 1 hh off fun n => isInOf n (foldsOf true) c (l3, h3))))))) := rfl
     have t0 := not_f hc18
     have t1 := not_f hc26
     have t2 := not_f hc34
     have t3 := not_f hc42
     exact ⟨ret_bool (by rw [e]; simp only [ho, t0, t1, t2, t3, Bool.true_and, Bool.false_and]), fB30⟩
open Go.RowKit
theorem closes_ne (l1 h1 l2 h2 l3 h3 l4 h4 l5 h5 : Int) (wo : Bool) (x0 x1 x2 x3 x4 x5 : Value) (op : Bool) (off c : Int) (w : World) (hne : (op != wo) = true) :
  Calls Tryz.prog 70 #[.agg #[x0, x1, x2, x3, x4, x5, .bool op, .int .i64 off], .agg #[.int .i64 l1, .int .i64 h1, .int .i64 l2, .int .i64 h2, .int .i64 l3, .int .i64 h3, .int .i64 l4, .int .i64 h4, .int .i64 l5, .int .i64 h5, .bool wo], .int .i64 c] w (fun e w' => e = .returned (.bool false) ∧ Below w.heap.size w w') := by
 refine calls_fr Tryz.func70 Tryz.ntmps70 rfl rfl fun g hg => ?_
 have k0 : g 0 = .agg #[x0, x1, x2, x3, x4, x5, .bool op, .int .i64 off] := hg 0
 have k1 : g 1 = .agg #[.int .i64 l1, .int .i64 h1, .int .i64 l2, .int .i64 h2, .int .i64 l3, .int .i64 h3, .int .i64 l4, .int .i64 h4, .int .i64 l5, .int .i64 h5, .bool wo] := hg 1
 have k2 : g 2 = .int .i64 c := hg 2
 clear hg
 have fB0 : Below w.heap.size w w := Below.refl _ _
 refine rw_ 4 [(3, 0), (4, 1), (5, 2), (6, 3)] [[], [], [], []] (rel [bx 0 #[x0, x1, x2, x3, x4, x5, .bool op, .int .i64 off] 127, bx 1 #[.int .i64 l1, .int .i64 h1, .int .i64 l2, .int .i64 h2, .int .i64 l3, .int .i64 h3, .int .i64 l4, .int .i64 h4, .int .i64 l5, .int .i64 h5, .bool wo] 43, bx 2 #[.int .i64 c] 3, iB false])
  ⟨fun f s W d i j k l a => opb rfl rfl (by simp [go_sem, a.e 0 k0]),
  fun f s W d i j k l a => opb rfl rfl (by simp [go_sem, a.e 1 k1]),
  fun f s W d i j k l a => opb rfl rfl (by simp [go_sem, a.e 2 k2]),
  fun f s W d i j k l a => opz, trivial⟩ ?_
 intro f1 s1 W1 hB1 g1 hg1 z1
 obtain ⟨r1_0, br1_0⟩ := hB1.is 0
 have lr1_0 := hB1.lr 0 br1_0
 obtain ⟨r1_1, br1_1⟩ := hB1.is 1
 have lr1_1 := hB1.lr 1 br1_1
 obtain ⟨r1_2, br1_2⟩ := hB1.is 2
 have lr1_2 := hB1.lr 2 br1_2
 have ne1_0_1 : s1 0 ≠ s1 1 := hB1.ne 0 1 (by decide) (by decide) (by decide) (fun _ _ _ h => ltb h.2) (fun _ _ _ h => ltb h.2)
 have ne1_0_2 : s1 0 ≠ s1 2 := hB1.ne 0 2 (by decide) (by decide) (by decide) (fun _ _ _ h => ltb h.2) (fun _ _ _ h => ltb h.2)
 have ne1_1_2 : s1 1 ≠ s1 2 := hB1.ne 1 2 (by decide) (by decide) (by decide) (fun _ _ _ h => ltb h.2) (fun _ _ _ h => ltb h.2)
 have k1_3 := kt hg1 3 r1_0
 have k1_4 := kt hg1 4 r1_1
 refine wp_seq_k fun K2 hK2 => ?_
 refine rw_ 7 [(11, 0), (12, 1), (13, 2), (14, 3), (15, 4), (16, 5), (17, 6)] [[], [0], [1], [2], [], [4], [3, 5]] (rel [is (.pointer (some ⟨(s1 0), 0, none⟩)), is (.pointer (some ⟨(s1 0), 0, none⟩)), is (.pointer (some ⟨(s1 0), 6, none⟩)), iB op, is (.pointer (some ⟨(s1 1), 10, none⟩)), iB wo, iB (op != wo)])
  ⟨fun f s W d i j k l a => opv rfl rfl (by simp [go_sem, a.e 3 k1_3]) rfl,
  fun f s W d i j k l a => opv rfl rfl (by simp [go_sem, a.e 11 (i 0 rfl)]) rfl,
  fun f s W d i j k l a => opv rfl rfl (by simp [go_sem, a.e 12 (i 1 rfl)]) rfl,
  fun f s W d i j k l a => opv rfl rfl (by simp [go_sem, a.e 13 (i 2 rfl), cb br1_0 d 6]) rfl,
  fun f s W d i j k l a => opv rfl rfl (by simp [go_sem, a.e 4 k1_4]) rfl,
  fun f s W d i j k l a => opv rfl rfl (by simp [go_sem, a.e 15 (i 4 rfl), cb br1_1 d 10]) rfl,
  fun f s W d i j k l a => opv rfl rfl (by simp [go_sem, a.e 14 (i 3 rfl), a.e 16 (i 5 rfl), bne]) rfl, trivial⟩ ?_
 intro f2 s2 W2 hB2 g2 hg2 z2
 have k2_17 := kt hg2 17 (hB2.is 6)
 have hc4 : (fr 65 g2).eval (.tmp 17) = .bool true := ((fr_eval rfl).trans k2_17).trans (by rw [hne])
 refine wp_cond_true (hc4) ?_
 refine rw_ 1 [(6, 0)] [[]] (rel [iB false])
  ⟨fun f s W d i j k l a => opz, trivial⟩ ?_
 intro f3 s3 W3 hB3 g3 hg3 z3
 have fB3 := hB3.f (hB2.f (hB1.f fB0))
 have k3_6 := kt hg3 6 (hB3.is 0)
 refine wp_ret ?_
 refine then_ret ?_
 refine leave_one (N := 65) (.inr rfl) Tryz.results70 rfl k3_6 ?_
 exact ⟨rfl, fB3⟩
open Go.RowKit
theorem may_bad (a1 a2 a3 : Option Addr) (c1 c2 c3 : Nat) (b : Bl) (l1 h1 l2 h2 l3 h3 l4 h4 l5 h5 lo hi off : Int) (wo : Bool) (w : World) (h1' : Ii w a1 b.panels.length c1 b.panels) (h2' : Ii w a2 b.top.length c2 b.top) (h3' : Ii w a3 b.bottom.length c3 b.bottom) (hbad : (wishedErr b ⟨(l1, h1), (l2, h2), (l3, h3), (l4, h4), (l5, h5), wo⟩ [(lo, hi)] != 0) = false → (!(within 0 5 [off])) = true) :
  Calls Tryz.prog 31 #[.agg #[.int .i64 b.tab, .slice a1 (b.panels.length) c1, .int .i64 b.height, .slice a2 (b.top.length) c2, .slice a3 (b.bottom.length) c3, .int .i64 b.slot, .bool b.isOpen], .agg #[.int .i64 l1, .int .i64 h1, .int .i64 l2, .int .i64 h2, .int .i64 l3, .int .i64 h3, .int .i64 l4, .int .i64 h4, .int .i64 l5, .int .i64 h5, .bool wo], .agg #[.int .i64 lo, .int .i64 hi], .int .i64 off] w (fun e w' => e = .returned (.tuple #[.int .i64 (mayOf b ⟨(l1, h1), (l2, h2), (l3, h3), (l4, h4), (l5, h5), wo⟩ lo hi off).1, .int .i64 (mayOf b ⟨(l1, h1), (l2, h2), (l3, h3), (l4, h4), (l5, h5), wo⟩ lo hi off).2]) ∧ Below w.heap.size w w') := by
 refine calls_fr Tryz.func31 Tryz.ntmps31 rfl rfl fun g hg => ?_
 have k0 : g 0 = .agg #[.int .i64 b.tab, .slice a1 (b.panels.length) c1, .int .i64 b.height, .slice a2 (b.top.length) c2, .slice a3 (b.bottom.length) c3, .int .i64 b.slot, .bool b.isOpen] := hg 0
 have k1 : g 1 = .agg #[.int .i64 l1, .int .i64 h1, .int .i64 l2, .int .i64 h2, .int .i64 l3, .int .i64 h3, .int .i64 l4, .int .i64 h4, .int .i64 l5, .int .i64 h5, .bool wo] := hg 1
 have k2 : g 2 = .agg #[.int .i64 lo, .int .i64 hi] := hg 2
 have k3 : g 3 = .int .i64 off := hg 3
 clear hg
 have fB0 : Below w.heap.size w w := Below.refl _ _
 refine rw_ 5 [(4, 0), (5, 1), (6, 2), (8, 3), (9, 4)] [[], [], [], [], []] (rel [bx 0 #[.int .i64 b.tab, .slice a1 (b.panels.length) c1, .int .i64 b.height, .slice a2 (b.top.length) c2, .slice a3 (b.bottom.length) c3, .int .i64 b.slot, .bool b.isOpen] 24, bx 1 #[.int .i64 l1, .int .i64 h1, .int .i64 l2, .int .i64 h2, .int .i64 l3, .int .i64 h3, .int .i64 l4, .int .i64 h4, .int .i64 l5, .int .i64 h5, .bool wo] 43, bx 2 #[.int .i64 lo, .int .i64 hi] 26, iI 0, iI 0])
  ⟨fun f s W c d i j k a => opb rfl rfl (by simp [go_sem, a.e 0 k0]),
  fun f s W c d i j k a => opb rfl rfl (by simp [go_sem, a.e 1 k1]),
  fun f s W c d i j k a => opb rfl rfl (by simp [go_sem, a.e 2 k2]),
  fun f s W c d i j k a => opz,
  fun f s W c d i j k a => opz, trivial⟩ ?_
 intro f1 s1 W1 hB1 g1 hg1 z1
 have fB1 := hB1.f fB0
 obtain ⟨r1_0, br1_0⟩ := hB1.is 0
 have lr1_0 := hB1.lr 0 br1_0
 obtain ⟨r1_1, br1_1⟩ := hB1.is 1
 have lr1_1 := hB1.lr 1 br1_1
 obtain ⟨r1_2, br1_2⟩ := hB1.is 2
 have lr1_2 := hB1.lr 2 br1_2
 have ne1_0_1 : s1 0 ≠ s1 1 := hB1.ne 0 1 (by decide) (by decide) (by decide) (fun _ _ _ h => ltb h.2) (fun _ _ _ h => ltb h.2)
 have ne1_0_2 : s1 0 ≠ s1 2 := hB1.ne 0 2 (by decide) (by decide) (by decide) (fun _ _ _ h => ltb h.2) (fun _ _ _ h => ltb h.2)
 have ne1_1_2 : s1 1 ≠ s1 2 := hB1.ne 1 2 (by decide) (by decide) (by decide) (fun _ _ _ h => ltb h.2) (fun _ _ _ h => ltb h.2)
 have k1_4 := kt hg1 4 r1_0
 have k1_5 := kt hg1 5 r1_1
 have k1_6 := kt hg1 6 r1_2
 refine wp_seq_k fun K2 hK2 => ?_
 refine rw_ 6 [(13, 0), (14, 1), (15, 2), (16, 3), (17, 4), (10, 5)] [[], [], [], [2], [0, 1, 3], [4]] (rel [is (.agg #[.int .i64 b.tab, .slice a1 (b.panels.length) c1, .int .i64 b.height, .slice a2 (b.top.length) c2, .slice a3 (b.bottom.length) c3, .int .i64 b.slot, .bool b.isOpen]), is (.agg #[.int .i64 l1, .int .i64 h1, .int .i64 l2, .int .i64 h2, .int .i64 l3, .int .i64 h3, .int .i64 l4, .int .i64 h4, .int .i64 l5, .int .i64 h5, .bool wo]), is (.agg #[.int .i64 lo, .int .i64 hi]), row 3 1 #[.int .i64 lo, .int .i64 hi] 26, iI (wishedErr b ⟨(l1, h1), (l2, h2), (l3, h3), (l4, h4), (l5, h5), wo⟩ [(lo, hi)]), iI (wishedErr b ⟨(l1, h1), (l2, h2), (l3, h3), (l4, h4), (l5, h5), wo⟩ [(lo, hi)])])
  ⟨fun f s W c d i j k a => opv rfl rfl (by simp [go_sem, a.e 4 k1_4, cb br1_0 c 0, cb br1_0 c 1, cb br1_0 c 2, cb br1_0 c 3, cb br1_0 c 4, cb br1_0 c 5, cb br1_0 c 6]) rfl,
  fun f s W c d i j k a => opv rfl rfl (by simp [go_sem, a.e 5 k1_5, cb br1_1 c 0, cb br1_1 c 1, cb br1_1 c 2, cb br1_1 c 3, cb br1_1 c 4, cb br1_1 c 5, cb br1_1 c 6, cb br1_1 c 7, cb br1_1 c 8, cb br1_1 c 9, cb br1_1 c 10]) rfl,
  fun f s W c d i j k a => opv rfl rfl (by simp [go_sem, a.e 6 k1_6, cb br1_2 c 0, cb br1_2 c 1]) rfl,
  fun f s W c d i j k a => opr rfl rfl (by simp [go_sem, a.e 15 (d 2 rfl)]),
  fun f s W c d i j k a => by have l := bwt fB1 c; exact opc (args := #[.agg #[.int .i64 b.tab, .slice a1 (b.panels.length) c1, .int .i64 b.height, .slice a2 (b.top.length) c2, .slice a3 (b.bottom.length) c3, .int .i64 b.slot, .bool b.isOpen], .agg #[.int .i64 l1, .int .i64 h1, .int .i64 l2, .int .i64 h2, .int .i64 l3, .int .i64 h3, .int .i64 l4, .int .i64 h4, .int .i64 l5, .int .i64 h5, .bool wo], .slice (some ⟨(s 3), 0, none⟩) (1) (1)]) rfl rfl (by simp [go_sem, a.e 13 (d 0 rfl), a.e 14 (d 1 rfl), a.e 16 (d 3 rfl).1]) (wished_any _ b l1 h1 l2 h2 l3 h3 l4 h4 l5 h5 wo _ _ _ [(lo, hi)] W ⟨_, _, _, _, _, _, _, _, _, rfl, h1'.below l (Nat.le_refl _), h2'.below l (Nat.le_refl _), h3'.below l (Nat.le_refl _)⟩ (pp_block (xs := [(lo, hi)]) (d 3 rfl).2 rfl rfl)),
  fun f s W c d i j k a => opm (a.v 17 (d 4 rfl)), trivial⟩ ?_
 intro f2 s2 W2 hB2 g2 hg2 z2
 obtain ⟨r2_3, br2_3⟩ := hB2.is 3
 have lr2_3 := hB2.lr 3 br2_3
 have k2_10 := kt hg2 10 (hB2.is 5)
 refine wp_block ?_
 refine rw_ 3 [(19, 0), (20, 1), (18, 2)] [[], [0], [1]] (rel [iI (wishedErr b ⟨(l1, h1), (l2, h2), (l3, h3), (l4, h4), (l5, h5), wo⟩ [(lo, hi)]), iB ((wishedErr b ⟨(l1, h1), (l2, h2), (l3, h3), (l4, h4), (l5, h5), wo⟩ [(lo, hi)]) != 0), iB ((wishedErr b ⟨(l1, h1), (l2, h2), (l3, h3), (l4, h4), (l5, h5), wo⟩ [(lo, hi)]) != 0)])
  ⟨fun f s W c d i j k a => opm (a.v 10 k2_10),
  fun f s W c d i j k a => opv rfl rfl (by simp [go_sem, a.e 19 (d 0 rfl)]) rfl,
  fun f s W c d i j k a => opm (a.v 20 (d 1 rfl)), trivial⟩ ?_
 intro f3 s3 W3 hB3 g3 hg3 z3
 have fB3 := hB3.f (hB2.f fB1)
 have k3_3 := kt hg3 3 (kt hg2 3 (kt hg1 3 k3))
 have k3_10 := kt hg3 10 k2_10
 have k3_18 := kt hg3 18 (hB3.is 2)
 refine wp_cond_split (t := (wishedErr b ⟨(l1, h1), (l2, h2), (l3, h3), (l4, h4), (l5, h5), wo⟩ [(lo, hi)]) != 0) ((fr_eval rfl).trans k3_18) (fun hc5 => ?_) (fun hc5 => ?_)
 ·
  have hc5' := hc5; try simp only [ba] at hc5'
  refine rw_ 3 [(21, 0), (8, 1), (9, 2)] [[], [], [0]] (rel [iI (wishedErr b ⟨(l1, h1), (l2, h2), (l3, h3), (l4, h4), (l5, h5), wo⟩ [(lo, hi)]), iI 0, iI (wishedErr b ⟨(l1, h1), (l2, h2), (l3, h3), (l4, h4), (l5, h5), wo⟩ [(lo, hi)])])
   ⟨fun f s W c d i j k a => opm (a.v 10 k3_10),
  fun f s W c d i j k a => opz,
  fun f s W c d i j k a => opm (a.v 21 (d 0 rfl)), trivial⟩ ?_
  intro f4 s4 W4 hB4 g4 hg4 z4
  have fB4 := hB4.f fB3
  have k4_8 := kt hg4 8 (hB4.is 1)
  have k4_9 := kt hg4 9 (hB4.is 2)
  refine wp_ret ?_
  refine inBlock_ret (then_ret ?_)
  refine leave_gen (v := .tuple #[.int .i64 0, .int .i64 (wishedErr b ⟨(l1, h1), (l2, h2), (l3, h3), (l4, h4), (l5, h5), wo⟩ [(lo, hi)])]) (.inr rfl) (by simp [results, Tryz.results31, go_sem, frv 43 k4_8, frv 43 k4_9]) ?_
  exact ⟨by simp only [mayOf, hc5, if_true, if_false, Bool.false_eq_true], fB4⟩
 ·
  have hc5' := hc5; try simp only [ba] at hc5'
  refine rw_ 4 [(23, 0), (24, 1), (25, 2), (22, 3)] [[], [0], [1], [2]] (rel [iI off, iB (within 0 5 [off]), iB (!(within 0 5 [off])), iB (!(within 0 5 [off]))])
   ⟨fun f s W c d i j k a => opm (a.v 3 k3_3),
  fun f s W c d i j k a => opc rfl rfl (by simp [go_sem, a.e 23 (d 0 rfl)]) (isOff_any off W),
  fun f s W c d i j k a => opv rfl rfl (by simp [go_sem, a.e 24 (d 1 rfl)]) rfl,
  fun f s W c d i j k a => opm (a.v 25 (d 2 rfl)), trivial⟩ ?_
  intro f5 s5 W5 hB5 g5 hg5 z5
  have k5_22 := kt hg5 22 (hB5.is 3)
  refine wp_cond_split (t := !(within 0 5 [off])) ((fr_eval rfl).trans k5_22) (fun hc8 => ?_) (fun hc8 => ?_)
  ·
   have hc8' := hc8; try simp only [ba] at hc8'
   refine rw_ 2 [(8, 0), (9, 1)] [[], []] (rel [iI 0, iI 7])
    ⟨fun f s W c d i j k a => opz,
  fun f s W c d i j k a => opz, trivial⟩ ?_
   intro f6 s6 W6 hB6 g6 hg6 z6
   have fB6 := hB6.f (hB5.f fB3)
   have k6_8 := kt hg6 8 (hB6.is 0)
   have k6_9 := kt hg6 9 (hB6.is 1)
   refine wp_ret ?_
   refine inBlock_ret (then_ret ?_)
   refine leave_gen (v := .tuple #[.int .i64 0, .int .i64 7]) (.inr rfl) (by simp [results, Tryz.results31, go_sem, frv 43 k6_8, frv 43 k6_9]) ?_
   exact ⟨by simp only [mayOf, hc5, hc8, if_true, if_false, Bool.false_eq_true], fB6⟩
  ·
   have hc8' := hc8; try simp only [ba] at hc8'
   exact absurd (hbad hc5) (by rw [hc8]; decide)
   -- done
theorem may_true (l1 h1 l2 h2 l3 h3 l4 h4 l5 h5 lo hi off : Int) (wo : Bool)  (p0 p1 p2 p3 v0 v1 v2 v3 tab hh slot : Int) (bp ox cp q0 o0 m0 q1 o1 m1 : Nat) (w : World) (hw : WishIn ⟨(l1, h1), (l2, h2), (l3, h3), (l4, h4), (l5, h5), wo⟩) (hP : Ii w (some ⟨bp, ox, none⟩) 4 cp [p0, p1, p2, p3]) (hI0 : Ii w (some ⟨q0, o0, none⟩) 2 m0 [v0, v1]) (hI1 : Ii w (some ⟨q1, o1, none⟩) 2 m1 [v2, v3]) (hpp : ∀ x ∈ [p0, p1, p2, p3], 1 ≤ x ∧ x ≤ 3000) (hv0 : 0 ≤ v0) (hv0' : v0 ≤ 3000) (hv1 : 0 ≤ v1) (hv1' : v1 ≤ 3000) (hv2 : 0 ≤ v2) (hv2' : v2 ≤ 3000) (hv3 : 0 ≤ v3) (hv3' : v3 ≤ 3000) (hlo : 1 ≤ lo) (hhi : hi ≤ 10000) (ho1 : 0 ≤ off) (ho2 : off ≤ 5) (hh1 : 1 ≤ hh) (hh2 : hh ≤ 3000) (hs1 : 0 ≤ slot) (hs2 : slot ≤ 20) (k : (wishedErr ⟨tab, [p0, p1, p2, p3], hh, [v2, v3], [v0, v1], slot, true⟩ ⟨(l1, h1), (l2, h2), (l3, h3), (l4, h4), (l5, h5), wo⟩ [(lo, hi)] != 0) = false) (hof : (!(within 0 5 [off])) = false) (hwo : wo = true) :
  Calls Tryz.prog 31 #[.agg #[.int .i64 tab, .slice (some ⟨bp, ox, none⟩) 4 cp, .int .i64 hh, .slice (some ⟨q1, o1, none⟩) 2 m1, .slice (some ⟨q0, o0, none⟩) 2 m0, .int .i64 slot, .bool true], .agg #[.int .i64 l1, .int .i64 h1, .int .i64 l2, .int .i64 h2, .int .i64 l3, .int .i64 h3, .int .i64 l4, .int .i64 h4, .int .i64 l5, .int .i64 h5, .bool wo], .agg #[.int .i64 lo, .int .i64 hi], .int .i64 off] w (fun e w' => e = .returned (.tuple #[.int .i64 (mayOf ⟨tab, [p0, p1, p2, p3], hh, [v2, v3], [v0, v1], slot, true⟩ ⟨(l1, h1), (l2, h2), (l3, h3), (l4, h4), (l5, h5), wo⟩ lo hi off).1, .int .i64 (mayOf ⟨tab, [p0, p1, p2, p3], hh, [v2, v3], [v0, v1], slot, true⟩ ⟨(l1, h1), (l2, h2), (l3, h3), (l4, h4), (l5, h5), wo⟩ lo hi off).2]) ∧ Below w.heap.size w w') := by
 have hm : mayOf ⟨tab, [p0, p1, p2, p3], hh, [v2, v3], [v0, v1], slot, true⟩ ⟨(l1, h1), (l2, h2), (l3, h3), (l4, h4), (l5, h5), wo⟩ lo hi off = mayFrom (closesOf ⟨tab, [p0, p1, p2, p3], hh, [v2, v3], [v0, v1], slot, true⟩ ⟨(l1, h1), (l2, h2), (l3, h3), (l4, h4), (l5, h5), wo⟩ off) (hi + 1 - lo).toNat lo := by simp only [mayOf, k, hof, if_false, Bool.false_eq_true]
 obtain ⟨F_, hF_⟩ : ∃ F, F = closesOf ⟨tab, [p0, p1, p2, p3], hh, [v2, v3], [v0, v1], slot, true⟩ ⟨(l1, h1), (l2, h2), (l3, h3), (l4, h4), (l5, h5), wo⟩ off := ⟨_, rfl⟩
 rw [hm, ← hF_]
 refine calls_fr Tryz.func31 Tryz.ntmps31 rfl rfl fun g hg => ?_
 have k0 : g 0 = .agg #[.int .i64 tab, .slice (some ⟨bp, ox, none⟩) 4 cp, .int .i64 hh, .slice (some ⟨q1, o1, none⟩) 2 m1, .slice (some ⟨q0, o0, none⟩) 2 m0, .int .i64 slot, .bool true] := hg 0
 have k1 : g 1 = .agg #[.int .i64 l1, .int .i64 h1, .int .i64 l2, .int .i64 h2, .int .i64 l3, .int .i64 h3, .int .i64 l4, .int .i64 h4, .int .i64 l5, .int .i64 h5, .bool wo] := hg 1
 have k2 : g 2 = .agg #[.int .i64 lo, .int .i64 hi] := hg 2
 have k3 : g 3 = .int .i64 off := hg 3
 clear hg
 have fB0 : Below w.heap.size w w := Below.refl _ _
 refine rw_ 5 [(4, 0), (5, 1), (6, 2), (8, 3), (9, 4)] [[], [], [], [], []] (rel [bx 0 #[.int .i64 tab, .slice (some ⟨bp, ox, none⟩) 4 cp, .int .i64 hh, .slice (some ⟨q1, o1, none⟩) 2 m1, .slice (some ⟨q0, o0, none⟩) 2 m0, .int .i64 slot, .bool true] 24, bx 1 #[.int .i64 l1, .int .i64 h1, .int .i64 l2, .int .i64 h2, .int .i64 l3, .int .i64 h3, .int .i64 l4, .int .i64 h4, .int .i64 l5, .int .i64 h5, .bool wo] 43, bx 2 #[.int .i64 lo, .int .i64 hi] 26, iI 0, iI 0])
  ⟨fun f s W d i j k l a => opb rfl rfl (by simp [go_sem, a.e 0 k0]),
  fun f s W d i j k l a => opb rfl rfl (by simp [go_sem, a.e 1 k1]),
  fun f s W d i j k l a => opb rfl rfl (by simp [go_sem, a.e 2 k2]),
  fun f s W d i j k l a => opz,
  fun f s W d i j k l a => opz, trivial⟩ ?_
 intro f1 s1 W1 hB1 g1 hg1 z1
 have fB1 := hB1.f fB0
 obtain ⟨r1_0, br1_0⟩ := hB1.is 0
 have lr1_0 := hB1.lr 0 br1_0
 obtain ⟨r1_1, br1_1⟩ := hB1.is 1
 have lr1_1 := hB1.lr 1 br1_1
 obtain ⟨r1_2, br1_2⟩ := hB1.is 2
 have lr1_2 := hB1.lr 2 br1_2
 have ne1_0_1 : s1 0 ≠ s1 1 := hB1.ne 0 1 (by decide) (by decide) (by decide) (fun _ _ _ h => ltb h.2) (fun _ _ _ h => ltb h.2)
 have ne1_0_2 : s1 0 ≠ s1 2 := hB1.ne 0 2 (by decide) (by decide) (by decide) (fun _ _ _ h => ltb h.2) (fun _ _ _ h => ltb h.2)
 have ne1_1_2 : s1 1 ≠ s1 2 := hB1.ne 1 2 (by decide) (by decide) (by decide) (fun _ _ _ h => ltb h.2) (fun _ _ _ h => ltb h.2)
 have k1_4 := kt hg1 4 r1_0
 have k1_5 := kt hg1 5 r1_1
 have k1_6 := kt hg1 6 r1_2
 refine wp_seq_k fun K2 hK2 => ?_
 refine rw_ 6 [(13, 0), (14, 1), (15, 2), (16, 3), (17, 4), (10, 5)] [[], [], [], [2], [0, 1, 3], [4]] (rel [is (.agg #[.int .i64 tab, .slice (some ⟨bp, ox, none⟩) 4 cp, .int .i64 hh, .slice (some ⟨q1, o1, none⟩) 2 m1, .slice (some ⟨q0, o0, none⟩) 2 m0, .int .i64 slot, .bool true]), is (.agg #[.int .i64 l1, .int .i64 h1, .int .i64 l2, .int .i64 h2, .int .i64 l3, .int .i64 h3, .int .i64 l4, .int .i64 h4, .int .i64 l5, .int .i64 h5, .bool wo]), is (.agg #[.int .i64 lo, .int .i64 hi]), row 3 1 #[.int .i64 lo, .int .i64 hi] 26, iI (wishedErr ⟨tab, [p0, p1, p2, p3], hh, [v2, v3], [v0, v1], slot, true⟩ ⟨(l1, h1), (l2, h2), (l3, h3), (l4, h4), (l5, h5), wo⟩ [(lo, hi)]), iI (wishedErr ⟨tab, [p0, p1, p2, p3], hh, [v2, v3], [v0, v1], slot, true⟩ ⟨(l1, h1), (l2, h2), (l3, h3), (l4, h4), (l5, h5), wo⟩ [(lo, hi)])])
  ⟨fun f s W d i j k l a => opv rfl rfl (by simp [go_sem, a.e 4 k1_4, cb br1_0 d 0, cb br1_0 d 1, cb br1_0 d 2, cb br1_0 d 3, cb br1_0 d 4, cb br1_0 d 5, cb br1_0 d 6]) rfl,
  fun f s W d i j k l a => opv rfl rfl (by simp [go_sem, a.e 5 k1_5, cb br1_1 d 0, cb br1_1 d 1, cb br1_1 d 2, cb br1_1 d 3, cb br1_1 d 4, cb br1_1 d 5, cb br1_1 d 6, cb br1_1 d 7, cb br1_1 d 8, cb br1_1 d 9, cb br1_1 d 10]) rfl,
  fun f s W d i j k l a => opv rfl rfl (by simp [go_sem, a.e 6 k1_6, cb br1_2 d 0, cb br1_2 d 1]) rfl,
  fun f s W d i j k l a => opr rfl rfl (by simp [go_sem, a.e 15 (i 2 rfl)]),
  fun f s W d i j k l a => by have m := bwt fB1 d; exact opc (args := #[.agg #[.int .i64 tab, .slice (some ⟨bp, ox, none⟩) 4 cp, .int .i64 hh, .slice (some ⟨q1, o1, none⟩) 2 m1, .slice (some ⟨q0, o0, none⟩) 2 m0, .int .i64 slot, .bool true], .agg #[.int .i64 l1, .int .i64 h1, .int .i64 l2, .int .i64 h2, .int .i64 l3, .int .i64 h3, .int .i64 l4, .int .i64 h4, .int .i64 l5, .int .i64 h5, .bool wo], .slice (some ⟨(s 3), 0, none⟩) (1) (1)]) rfl rfl (by simp [go_sem, a.e 13 (i 0 rfl), a.e 14 (i 1 rfl), a.e 16 (i 3 rfl).1]) (wished_any _ ⟨tab, [p0, p1, p2, p3], hh, [v2, v3], [v0, v1], slot, true⟩ l1 h1 l2 h2 l3 h3 l4 h4 l5 h5 wo _ _ _ [(lo, hi)] W ⟨_, _, _, _, _, _, _, _, _, rfl, hP.below m (Nat.le_refl _), hI1.below m (Nat.le_refl _), hI0.below m (Nat.le_refl _)⟩ (pp_block (xs := [(lo, hi)]) (i 3 rfl).2 rfl rfl)),
  fun f s W d i j k l a => opm (a.v 17 (i 4 rfl)), trivial⟩ ?_
 intro f2 s2 W2 hB2 g2 hg2 z2
 obtain ⟨r2_3, br2_3⟩ := hB2.is 3
 have lr2_3 := hB2.lr 3 br2_3
 have k2_10 := kt hg2 10 (hB2.is 5)
 refine wp_block ?_
 refine rw_ 3 [(19, 0), (20, 1), (18, 2)] [[], [0], [1]] (rel [iI (wishedErr ⟨tab, [p0, p1, p2, p3], hh, [v2, v3], [v0, v1], slot, true⟩ ⟨(l1, h1), (l2, h2), (l3, h3), (l4, h4), (l5, h5), wo⟩ [(lo, hi)]), iB ((wishedErr ⟨tab, [p0, p1, p2, p3], hh, [v2, v3], [v0, v1], slot, true⟩ ⟨(l1, h1), (l2, h2), (l3, h3), (l4, h4), (l5, h5), wo⟩ [(lo, hi)]) != 0), iB ((wishedErr ⟨tab, [p0, p1, p2, p3], hh, [v2, v3], [v0, v1], slot, true⟩ ⟨(l1, h1), (l2, h2), (l3, h3), (l4, h4), (l5, h5), wo⟩ [(lo, hi)]) != 0)])
  ⟨fun f s W d i j k l a => opm (a.v 10 k2_10),
  fun f s W d i j k l a => opv rfl rfl (by simp [go_sem, a.e 19 (i 0 rfl)]) rfl,
  fun f s W d i j k l a => opm (a.v 20 (i 1 rfl)), trivial⟩ ?_
 intro f3 s3 W3 hB3 g3 hg3 z3
 have k3_3 := kt hg3 3 (kt hg2 3 (kt hg1 3 k3))
 have k3_18 := kt hg3 18 (hB3.is 2)
 have hc5 : (fr 43 g3).eval (.tmp 18) = .bool false := ((fr_eval rfl).trans k3_18).trans (by rw [k])
 refine wp_cond_false (hc5) ?_
 refine rw_ 4 [(23, 0), (24, 1), (25, 2), (22, 3)] [[], [0], [1], [2]] (rel [iI off, iB (within 0 5 [off]), iB (!(within 0 5 [off])), iB (!(within 0 5 [off]))])
  ⟨fun f s W d i j k l a => opm (a.v 3 k3_3),
  fun f s W d i j k l a => opc rfl rfl (by simp [go_sem, a.e 23 (i 0 rfl)]) (isOff_any off W),
  fun f s W d i j k l a => opv rfl rfl (by simp [go_sem, a.e 24 (i 1 rfl)]) rfl,
  fun f s W d i j k l a => opm (a.v 25 (i 2 rfl)), trivial⟩ ?_
 intro f4 s4 W4 hB4 g4 hg4 z4
 have b4_0 := hB4.b (hB3.b (hB2.b br1_0))
 have k4_3 := kt hg4 3 k3_3
 have k4_4 := kt hg4 4 (kt hg3 4 (kt hg2 4 k1_4))
 have k4_22 := kt hg4 22 (hB4.is 3)
 have hc7 : (fr 43 g4).eval (.tmp 22) = .bool false := ((fr_eval rfl).trans k4_22).trans (by rw [hof])
 refine wp_cond_false (hc7) ?_
 refine wp_skip ?_
 refine ibn ?_
 refine hK2 _ _ ?_
 refine wp_seq_k fun K8 hK8 => ?_
 refine ry 5 [(26, 0), (27, 1), (28, 2), (29, 3), (11, 4)] [[], [0], [], [1, 2], [], [0, 1, 2, 3, 4]] (rel [is (.agg #[.int .i64 tab, .slice (some ⟨bp, ox, none⟩) 4 cp, .int .i64 hh, .slice (some ⟨q1, o1, none⟩) 2 m1, .slice (some ⟨q0, o0, none⟩) 2 m0, .int .i64 slot, .bool true]), is (.agg #[.int .i64 tab, .slice (some ⟨bp, ox, none⟩) 4 cp, .int .i64 hh, .slice (some ⟨q1, o1, none⟩) 2 m1, .slice (some ⟨q0, o0, none⟩) 2 m0, .int .i64 slot, .bool true]), iI off, is (.agg #[.int .i64 tab, .slice (some ⟨bp, ox, none⟩) 4 cp, .int .i64 hh, .slice (some ⟨q1, o1, none⟩) 2 m1, .slice (some ⟨q0, o0, none⟩) 2 m0, .int .i64 slot, .bool true, .int .i64 off]), bx 4 #[.int .i64 0, .slice none 0 0, .int .i64 0, .slice none 0 0, .slice none 0 0, .int .i64 0, .bool false, .int .i64 0] 127])
  ⟨fun f s W d i j k l a => opv rfl rfl (by simp [go_sem, a.e 4 k4_4, cb b4_0 d 0, cb b4_0 d 1, cb b4_0 d 2, cb b4_0 d 3, cb b4_0 d 4, cb b4_0 d 5, cb b4_0 d 6]) rfl,
  fun f s W d i j k l a => opv rfl rfl (by simp [go_sem, a.e 26 (i 0 rfl)]) rfl,
  fun f s W d i j k l a => opm (a.v 3 k4_3),
  fun f s W d i j k l a => opv rfl rfl (by simp [go_sem, a.e 27 (i 1 rfl), a.e 28 (i 2 rfl)]) rfl,
  fun f s W d i j k l a => opb rfl rfl (by simp [go_sem]), trivial⟩ ?_
 intro f5 s5 W5 hB5 g5 hg5 z5
 have fB5 := hB5.f (hB4.f (hB3.f (hB2.f fB1)))
 have b5_0 := hB5.b b4_0
 have b5_1 := hB5.b (hB4.b (hB3.b (hB2.b br1_1)))
 have b5_2 := hB5.b (hB4.b (hB3.b (hB2.b br1_2)))
 have b5_3 := hB5.b (hB4.b (hB3.b br2_3))
 obtain ⟨r5_4, br5_4⟩ := hB5.is 4
 have lr5_4 := hB5.lr 4 br5_4
 have k5_6 := kt hg5 6 (kt hg4 6 (kt hg3 6 (kt hg2 6 k1_6)))
 have k5_29 := kt hg5 29 (hB5.is 3)
 have k5_11 := kt hg5 11 r5_4
 obtain ⟨W6, hW6⟩ : ∃ W', W' = W5.setRow (s5 4) #[.int .i64 tab, .slice (some ⟨bp, ox, none⟩) 4 cp, .int .i64 hh, .slice (some ⟨q1, o1, none⟩) 2 m1, .slice (some ⟨q0, o0, none⟩) 2 m0, .int .i64 slot, .bool true, .int .i64 off] := ⟨_, rfl⟩
 refine tsk (o := _) rfl ⟨rfl, rfl⟩ (run_seg hW6 (fr_ev k5_11) (fr_ev k5_29) br5_4 rfl rfl rfl rfl) ?_
 obtain ⟨fB6, nb6, ot6, z6⟩ := sgf hW6 fB5 br5_4 (by omega)
 clear hW6
 have b6_0 := ot6 _ _ (by omega) b5_0
 have b6_1 := ot6 _ _ (by omega) b5_1
 have b6_2 := ot6 _ _ (by omega) b5_2
 have b6_3 := ot6 _ _ (by omega) b5_3
 refine wpe ?_
 refine hK8 _ _ ?_
 refine wp_seq_k fun K9 hK9 => ?_
 refine rw_ 3 [(30, 0), (31, 1), (12, 2)] [[], [0], [1]] (rel [is (.pointer (some ⟨(s1 2), 0, none⟩)), iI lo, iI lo])
  ⟨fun f s W d i j k l a => opv rfl rfl (by simp [go_sem, a.e 6 k5_6]) rfl,
  fun f s W d i j k l a => opv rfl rfl (by simp [go_sem, a.e 30 (i 0 rfl), cb b6_2 d 0]) rfl,
  fun f s W d i j k l a => opm (a.v 31 (i 1 rfl)), trivial⟩ ?_
 intro f7 s7 W7 hB7 g7 hg7 z7
 have fB7 := hB7.f fB6
 have b7_0 := hB7.b b6_0
 have b7_1 := hB7.b b6_1
 have b7_2 := hB7.b b6_2
 have b7_3 := hB7.b b6_3
 have b7_4 := hB7.b nb6
 have k7_5 := kt hg7 5 (kt hg5 5 (kt hg4 5 (kt hg3 5 (kt hg2 5 k1_5))))
 have k7_6 := kt hg7 6 k5_6
 have k7_11 := kt hg7 11 k5_11
 have k7_12 := kt hg7 12 (hB7.is 2)
 refine wp_block ?_
 refine wp_loop_n (fun m_ a_ W_ => ∃ g_ : Nat → Value, a_ = fr 43 g_ ∧ (∃ c : Int, m_ = (hi + 1 - c).toNat ∧ g_ 5 = .pointer (some ⟨(s1 1), 0, none⟩) ∧ g_ 6 = .pointer (some ⟨(s1 2), 0, none⟩) ∧ g_ 11 = .pointer (some ⟨(s5 4), 0, none⟩) ∧ g_ 12 = .int .i64 c ∧ Below w.heap.size w W_ ∧ W7.heap.size ≤ W_.heap.size ∧ W_.heap[(s1 0)]? = some (.cells #[.int .i64 tab, .slice (some ⟨bp, ox, none⟩) 4 cp, .int .i64 hh, .slice (some ⟨q1, o1, none⟩) 2 m1, .slice (some ⟨q0, o0, none⟩) 2 m0, .int .i64 slot, .bool true] 24 (0, 0)) ∧ W_.heap[(s1 1)]? = some (.cells #[.int .i64 l1, .int .i64 h1, .int .i64 l2, .int .i64 h2, .int .i64 l3, .int .i64 h3, .int .i64 l4, .int .i64 h4, .int .i64 l5, .int .i64 h5, .bool wo] 43 (0, 0)) ∧ W_.heap[(s1 2)]? = some (.cells #[.int .i64 lo, .int .i64 hi] 26 (0, 0)) ∧ W_.heap[(s2 3)]? = some (.cells #[.int .i64 lo, .int .i64 hi] 26 (0, 0)) ∧ W_.heap[(s5 4)]? = some (.cells #[.int .i64 tab, .slice (some ⟨bp, ox, none⟩) 4 cp, .int .i64 hh, .slice (some ⟨q1, o1, none⟩) 2 m1, .slice (some ⟨q0, o0, none⟩) 2 m0, .int .i64 slot, .bool true, .int .i64 off] 127 (0, 0)) ∧ (lo ≤ c) ∧ (c ≤ hi + 1 ∨ c = lo) ∧ (mayFrom F_ (hi + 1 - lo).toNat lo = mayFrom F_ (hi + 1 - c).toNat c))) ⟨_, g7, rfl, lo, rfl, k7_5, k7_6, k7_11, k7_12.trans (by rfl), fB7, Nat.le_refl _, b7_0, b7_1, b7_2, b7_3, b7_4, Int.le_refl _, .inr rfl, rfl⟩ ?_
 rintro _ _ W_1 ⟨g_1, rfl, c, rfl, k_1_5, k_1_6, k_1_11, k_1_12, fB_1, z_1, b_1_0, b_1_1, b_1_2, b_1_3, b_1_4, lp0, lp1, lp2⟩
 refine wp_seq_k fun K11 hK11 => ?_
 refine rw_ 4 [(32, 0), (33, 1), (34, 2), (35, 3)] [[], [], [1], [0, 2]] (rel [iI c, is (.pointer (some ⟨(s1 2), 1, none⟩)), iI hi, iB (decide (c ≤ hi))])
  ⟨fun f s W d i j k l a => opm (a.v 12 k_1_12),
  fun f s W d i j k l a => opv rfl rfl (by simp [go_sem, a.e 6 k_1_6]) rfl,
  fun f s W d i j k l a => opv rfl rfl (by simp [go_sem, a.e 33 (i 1 rfl), cb b_1_2 d 1]) rfl,
  fun f s W d i j k l a => opv rfl rfl (by simp [go_sem, a.e 32 (i 0 rfl), a.e 34 (i 2 rfl)]) rfl, trivial⟩ ?_
 intro f8 s8 W8 hB8 g8 hg8 z8
 have fB8 := hB8.f fB_1
 have b8_1 := hB8.b b_1_1
 have b8_4 := hB8.b b_1_4
 have k8_5 := kt hg8 5 k_1_5
 have k8_11 := kt hg8 11 k_1_11
 have k8_12 := kt hg8 12 k_1_12
 have k8_35 := kt hg8 35 (hB8.is 3)
 refine wp_cond_split (t := decide (c ≤ hi)) ((fr_eval rfl).trans k8_35) (fun hc13 => ?_) (fun hc13 => ?_)
 ·
  have hc13' := hc13; try simp only [ba] at hc13'
  refine wp_skip ?_
  refine hK11 _ _ ?_
  refine wp_seq_k fun K14 hK14 => ?_
  refine wp_block ?_
  refine rw_ 4 [(38, 0), (39, 1), (40, 2), (41, 3)] [[], [], [], [0, 1, 2]] (rel [is (.agg #[.int .i64 tab, .slice (some ⟨bp, ox, none⟩) 4 cp, .int .i64 hh, .slice (some ⟨q1, o1, none⟩) 2 m1, .slice (some ⟨q0, o0, none⟩) 2 m0, .int .i64 slot, .bool true, .int .i64 off]), is (.agg #[.int .i64 l1, .int .i64 h1, .int .i64 l2, .int .i64 h2, .int .i64 l3, .int .i64 h3, .int .i64 l4, .int .i64 h4, .int .i64 l5, .int .i64 h5, .bool wo]), iI c, iB (F_ c)])
   ⟨fun f s W d i j k l a => opv rfl rfl (by simp [go_sem, a.e 11 k8_11, cb b8_4 d 0, cb b8_4 d 1, cb b8_4 d 2, cb b8_4 d 3, cb b8_4 d 4, cb b8_4 d 5, cb b8_4 d 6, cb b8_4 d 7]) rfl,
  fun f s W d i j k l a => opv rfl rfl (by simp [go_sem, a.e 5 k8_5, cb b8_1 d 0, cb b8_1 d 1, cb b8_1 d 2, cb b8_1 d 3, cb b8_1 d 4, cb b8_1 d 5, cb b8_1 d 6, cb b8_1 d 7, cb b8_1 d 8, cb b8_1 d 9, cb b8_1 d 10]) rfl,
  fun f s W d i j k l a => opm (a.v 12 k8_12),
  fun f s W d i j k l a => by have m := bwt fB8 d; exact opc (args := #[.agg #[.int .i64 tab, .slice (some ⟨bp, ox, none⟩) 4 cp, .int .i64 hh, .slice (some ⟨q1, o1, none⟩) 2 m1, .slice (some ⟨q0, o0, none⟩) 2 m0, .int .i64 slot, .bool true, .int .i64 off], .agg #[.int .i64 l1, .int .i64 h1, .int .i64 l2, .int .i64 h2, .int .i64 l3, .int .i64 h3, .int .i64 l4, .int .i64 h4, .int .i64 l5, .int .i64 h5, .bool wo], .int .i64 c]) rfl rfl (by simp [go_sem, a.e 38 (i 0 rfl), a.e 39 (i 1 rfl), a.e 40 (i 2 rfl)]) (hF_ ▸ closes_true l1 h1 l2 h2 l3 h3 l4 h4 l5 h5 wo hw c off p0 p1 p2 p3 tab hh slot v0 v1 _ [v2, v3] q0 o0 m0 bp ox cp W (hP.below m (Nat.le_refl _)) hpp (hI0.below m (Nat.le_refl _)) hv0 hv0' hv1 hv1' (by omega) (by omega) ho1 ho2 hh1 hh2 hs1 hs2 hwo), trivial⟩ ?_
  intro f9 s9 W9 hB9 g9 hg9 z9
  have fB9 := hB9.f fB8
  have k9_12 := kt hg9 12 k8_12
  have k9_41 := kt hg9 41 (hB9.is 3)
  refine wp_cond_split (t := F_ c) ((fr_eval rfl).trans k9_41) (fun hc16 => ?_) (fun hc16 => ?_)
  ·
   have hc16' := hc16; try simp only [ba] at hc16'
   refine rw_ 3 [(42, 0), (8, 1), (9, 2)] [[], [0], []] (rel [iI c, iI c, iI 0])
    ⟨fun f s W d i j k l a => opm (a.v 12 k9_12),
  fun f s W d i j k l a => opm (a.v 42 (i 0 rfl)),
  fun f s W d i j k l a => opz, trivial⟩ ?_
   intro f10 s10 W10 hB10 g10 hg10 z10
   have fB10 := hB10.f fB9
   have k10_8 := kt hg10 8 (hB10.is 1)
   have k10_9 := kt hg10 9 (hB10.is 2)
   refine wp_ret ?_
   refine inBlock_ret (then_ret (then_ret (inBlock_ret (then_ret ?_))))
   refine leave_gen (v := .tuple #[.int .i64 c, .int .i64 0]) (.inr rfl) (by simp [results, Tryz.results31, go_sem, frv 43 k10_8, frv 43 k10_9]) ?_
   exact ⟨by rw [lp2, show (hi + 1 - c).toNat = (hi + 1 - (c + 1)).toNat + 1 by omega]; simp only [mayFrom, hc16, if_true], fB10⟩
  ·
   have hc16' := hc16; try simp only [ba] at hc16'
   refine wp_skip ?_
   refine ibn ?_
   refine hK14 _ _ ?_
   refine ry 3 [(36, 0), (37, 1), (12, 2)] [[], [0], [0, 1]] (rel [iI c, iI (c + 1), iI (c + 1)])
    ⟨fun f s W d i j k l a => opm (a.v 12 ((k 2 12 rfl rfl).trans k9_12)),
  fun f s W d i j k l a => opv rfl rfl (by simp [go_sem, a.e 36 (i 0 rfl), IntWalk.i64_in (c + 1) (by omega)]) rfl,
  fun f s W d i j k l a => opm (a.v 37 (i 1 rfl)), trivial⟩ ?_
   intro f11 s11 W11 hB11 g11 hg11 z11
   have fB11 := hB11.f fB9
   have b11_0 := hB11.b (hB9.b (hB8.b b_1_0))
   have b11_1 := hB11.b (hB9.b b8_1)
   have b11_2 := hB11.b (hB9.b (hB8.b b_1_2))
   have b11_3 := hB11.b (hB9.b (hB8.b b_1_3))
   have b11_4 := hB11.b (hB9.b b8_4)
   refine wpe ?_
   have k11_5 := kt hg11 5 (kt hg9 5 k8_5)
   have k11_6 := kt hg11 6 (kt hg9 6 (kt hg8 6 k_1_6))
   have k11_11 := kt hg11 11 (kt hg9 11 k8_11)
   have k11_12 := kt hg11 12 (hB11.is 2)
   refine then_normal ?_
   exact ⟨_, by omega, g11, rfl, c + 1, rfl, k11_5, k11_6, k11_11, k11_12.trans (by rfl), fB11, (by omega), b11_0, b11_1, b11_2, b11_3, b11_4, by omega, .inl (by omega), by rw [lp2, show (hi + 1 - c).toNat = (hi + 1 - (c + 1)).toNat + 1 by omega]; simp only [mayFrom, hc16, if_false, Bool.false_eq_true]⟩
 ·
  have hc13' := hc13; try simp only [ba] at hc13'
  refine wp_exit ?_
  refine then_exit ?_
  refine then_exit ?_
  refine inBlock_at ?_
  refine hK9 _ _ ?_
  refine rw_ 2 [(8, 0), (9, 1)] [[], []] (rel [iI 0, iI 9])
   ⟨fun f s W d i j k l a => opz,
  fun f s W d i j k l a => opz, trivial⟩ ?_
  intro f12 s12 W12 hB12 g12 hg12 z12
  have fB12 := hB12.f fB8
  have k12_8 := kt hg12 8 (hB12.is 0)
  have k12_9 := kt hg12 9 (hB12.is 1)
  refine wp_ret ?_
  refine leave_gen (v := .tuple #[.int .i64 0, .int .i64 9]) (.inr rfl) (by simp [results, Tryz.results31, go_sem, frv 43 k12_8, frv 43 k12_9]) ?_
  rw [lp2, show (hi + 1 - c).toNat = 0 by omega]; exact ⟨rfl, fB12⟩
theorem may_ne (l1 h1 l2 h2 l3 h3 l4 h4 l5 h5 lo hi off : Int) (wo : Bool) (op : Bool) (p0 p1 p2 p3 v0 v1 v2 v3 tab hh slot : Int) (bp ox cp q0 o0 m0 q1 o1 m1 : Nat) (w : World) (hw : WishIn ⟨(l1, h1), (l2, h2), (l3, h3), (l4, h4), (l5, h5), wo⟩) (hP : Ii w (some ⟨bp, ox, none⟩) 4 cp [p0, p1, p2, p3]) (hI0 : Ii w (some ⟨q0, o0, none⟩) 2 m0 [v0, v1]) (hI1 : Ii w (some ⟨q1, o1, none⟩) 2 m1 [v2, v3]) (hpp : ∀ x ∈ [p0, p1, p2, p3], 1 ≤ x ∧ x ≤ 3000) (hv0 : 0 ≤ v0) (hv0' : v0 ≤ 3000) (hv1 : 0 ≤ v1) (hv1' : v1 ≤ 3000) (hv2 : 0 ≤ v2) (hv2' : v2 ≤ 3000) (hv3 : 0 ≤ v3) (hv3' : v3 ≤ 3000) (hlo : 1 ≤ lo) (hhi : hi ≤ 10000) (ho1 : 0 ≤ off) (ho2 : off ≤ 5) (hh1 : 1 ≤ hh) (hh2 : hh ≤ 3000) (hs1 : 0 ≤ slot) (hs2 : slot ≤ 20) (k : (wishedErr ⟨tab, [p0, p1, p2, p3], hh, [v2, v3], [v0, v1], slot, op⟩ ⟨(l1, h1), (l2, h2), (l3, h3), (l4, h4), (l5, h5), wo⟩ [(lo, hi)] != 0) = false) (hof : (!(within 0 5 [off])) = false) (hwo : (op != wo) = true) :
  Calls Tryz.prog 31 #[.agg #[.int .i64 tab, .slice (some ⟨bp, ox, none⟩) 4 cp, .int .i64 hh, .slice (some ⟨q1, o1, none⟩) 2 m1, .slice (some ⟨q0, o0, none⟩) 2 m0, .int .i64 slot, .bool op], .agg #[.int .i64 l1, .int .i64 h1, .int .i64 l2, .int .i64 h2, .int .i64 l3, .int .i64 h3, .int .i64 l4, .int .i64 h4, .int .i64 l5, .int .i64 h5, .bool wo], .agg #[.int .i64 lo, .int .i64 hi], .int .i64 off] w (fun e w' => e = .returned (.tuple #[.int .i64 (mayOf ⟨tab, [p0, p1, p2, p3], hh, [v2, v3], [v0, v1], slot, op⟩ ⟨(l1, h1), (l2, h2), (l3, h3), (l4, h4), (l5, h5), wo⟩ lo hi off).1, .int .i64 (mayOf ⟨tab, [p0, p1, p2, p3], hh, [v2, v3], [v0, v1], slot, op⟩ ⟨(l1, h1), (l2, h2), (l3, h3), (l4, h4), (l5, h5), wo⟩ lo hi off).2]) ∧ Below w.heap.size w w') := by
 have hm : mayOf ⟨tab, [p0, p1, p2, p3], hh, [v2, v3], [v0, v1], slot, op⟩ ⟨(l1, h1), (l2, h2), (l3, h3), (l4, h4), (l5, h5), wo⟩ lo hi off = mayFrom (closesOf ⟨tab, [p0, p1, p2, p3], hh, [v2, v3], [v0, v1], slot, op⟩ ⟨(l1, h1), (l2, h2), (l3, h3), (l4, h4), (l5, h5), wo⟩ off) (hi + 1 - lo).toNat lo := by simp only [mayOf, k, hof, if_false, Bool.false_eq_true]
 obtain ⟨F_, hF_⟩ : ∃ F, F = closesOf ⟨tab, [p0, p1, p2, p3], hh, [v2, v3], [v0, v1], slot, op⟩ ⟨(l1, h1), (l2, h2), (l3, h3), (l4, h4), (l5, h5), wo⟩ off := ⟨_, rfl⟩
 rw [hm, ← hF_]
 have hFF : ∀ c, F_ c = false := fun c => by rw [hF_]; simp only [closesOf]; rw [show (op == wo) = false from by simpa [bne] using hwo]; rfl
 refine calls_fr Tryz.func31 Tryz.ntmps31 rfl rfl fun g hg => ?_
 have k0 : g 0 = .agg #[.int .i64 tab, .slice (some ⟨bp, ox, none⟩) 4 cp, .int .i64 hh, .slice (some ⟨q1, o1, none⟩) 2 m1, .slice (some ⟨q0, o0, none⟩) 2 m0, .int .i64 slot, .bool op] := hg 0
 have k1 : g 1 = .agg #[.int .i64 l1, .int .i64 h1, .int .i64 l2, .int .i64 h2, .int .i64 l3, .int .i64 h3, .int .i64 l4, .int .i64 h4, .int .i64 l5, .int .i64 h5, .bool wo] := hg 1
 have k2 : g 2 = .agg #[.int .i64 lo, .int .i64 hi] := hg 2
 have k3 : g 3 = .int .i64 off := hg 3
 clear hg
 have fB0 : Below w.heap.size w w := Below.refl _ _
 refine rw_ 5 [(4, 0), (5, 1), (6, 2), (8, 3), (9, 4)] [[], [], [], [], []] (rel [bx 0 #[.int .i64 tab, .slice (some ⟨bp, ox, none⟩) 4 cp, .int .i64 hh, .slice (some ⟨q1, o1, none⟩) 2 m1, .slice (some ⟨q0, o0, none⟩) 2 m0, .int .i64 slot, .bool op] 24, bx 1 #[.int .i64 l1, .int .i64 h1, .int .i64 l2, .int .i64 h2, .int .i64 l3, .int .i64 h3, .int .i64 l4, .int .i64 h4, .int .i64 l5, .int .i64 h5, .bool wo] 43, bx 2 #[.int .i64 lo, .int .i64 hi] 26, iI 0, iI 0])
  ⟨fun f s W d i j k l a => opb rfl rfl (by simp [go_sem, a.e 0 k0]),
  fun f s W d i j k l a => opb rfl rfl (by simp [go_sem, a.e 1 k1]),
  fun f s W d i j k l a => opb rfl rfl (by simp [go_sem, a.e 2 k2]),
  fun f s W d i j k l a => opz,
  fun f s W d i j k l a => opz, trivial⟩ ?_
 intro f1 s1 W1 hB1 g1 hg1 z1
 have fB1 := hB1.f fB0
 obtain ⟨r1_0, br1_0⟩ := hB1.is 0
 have lr1_0 := hB1.lr 0 br1_0
 obtain ⟨r1_1, br1_1⟩ := hB1.is 1
 have lr1_1 := hB1.lr 1 br1_1
 obtain ⟨r1_2, br1_2⟩ := hB1.is 2
 have lr1_2 := hB1.lr 2 br1_2
 have ne1_0_1 : s1 0 ≠ s1 1 := hB1.ne 0 1 (by decide) (by decide) (by decide) (fun _ _ _ h => ltb h.2) (fun _ _ _ h => ltb h.2)
 have ne1_0_2 : s1 0 ≠ s1 2 := hB1.ne 0 2 (by decide) (by decide) (by decide) (fun _ _ _ h => ltb h.2) (fun _ _ _ h => ltb h.2)
 have ne1_1_2 : s1 1 ≠ s1 2 := hB1.ne 1 2 (by decide) (by decide) (by decide) (fun _ _ _ h => ltb h.2) (fun _ _ _ h => ltb h.2)
 have k1_4 := kt hg1 4 r1_0
 have k1_5 := kt hg1 5 r1_1
 have k1_6 := kt hg1 6 r1_2
 refine wp_seq_k fun K2 hK2 => ?_
 refine rw_ 6 [(13, 0), (14, 1), (15, 2), (16, 3), (17, 4), (10, 5)] [[], [], [], [2], [0, 1, 3], [4]] (rel [is (.agg #[.int .i64 tab, .slice (some ⟨bp, ox, none⟩) 4 cp, .int .i64 hh, .slice (some ⟨q1, o1, none⟩) 2 m1, .slice (some ⟨q0, o0, none⟩) 2 m0, .int .i64 slot, .bool op]), is (.agg #[.int .i64 l1, .int .i64 h1, .int .i64 l2, .int .i64 h2, .int .i64 l3, .int .i64 h3, .int .i64 l4, .int .i64 h4, .int .i64 l5, .int .i64 h5, .bool wo]), is (.agg #[.int .i64 lo, .int .i64 hi]), row 3 1 #[.int .i64 lo, .int .i64 hi] 26, iI (wishedErr ⟨tab, [p0, p1, p2, p3], hh, [v2, v3], [v0, v1], slot, op⟩ ⟨(l1, h1), (l2, h2), (l3, h3), (l4, h4), (l5, h5), wo⟩ [(lo, hi)]), iI (wishedErr ⟨tab, [p0, p1, p2, p3], hh, [v2, v3], [v0, v1], slot, op⟩ ⟨(l1, h1), (l2, h2), (l3, h3), (l4, h4), (l5, h5), wo⟩ [(lo, hi)])])
  ⟨fun f s W d i j k l a => opv rfl rfl (by simp [go_sem, a.e 4 k1_4, cb br1_0 d 0, cb br1_0 d 1, cb br1_0 d 2, cb br1_0 d 3, cb br1_0 d 4, cb br1_0 d 5, cb br1_0 d 6]) rfl,
  fun f s W d i j k l a => opv rfl rfl (by simp [go_sem, a.e 5 k1_5, cb br1_1 d 0, cb br1_1 d 1, cb br1_1 d 2, cb br1_1 d 3, cb br1_1 d 4, cb br1_1 d 5, cb br1_1 d 6, cb br1_1 d 7, cb br1_1 d 8, cb br1_1 d 9, cb br1_1 d 10]) rfl,
  fun f s W d i j k l a => opv rfl rfl (by simp [go_sem, a.e 6 k1_6, cb br1_2 d 0, cb br1_2 d 1]) rfl,
  fun f s W d i j k l a => opr rfl rfl (by simp [go_sem, a.e 15 (i 2 rfl)]),
  fun f s W d i j k l a => by have m := bwt fB1 d; exact opc (args := #[.agg #[.int .i64 tab, .slice (some ⟨bp, ox, none⟩) 4 cp, .int .i64 hh, .slice (some ⟨q1, o1, none⟩) 2 m1, .slice (some ⟨q0, o0, none⟩) 2 m0, .int .i64 slot, .bool op], .agg #[.int .i64 l1, .int .i64 h1, .int .i64 l2, .int .i64 h2, .int .i64 l3, .int .i64 h3, .int .i64 l4, .int .i64 h4, .int .i64 l5, .int .i64 h5, .bool wo], .slice (some ⟨(s 3), 0, none⟩) (1) (1)]) rfl rfl (by simp [go_sem, a.e 13 (i 0 rfl), a.e 14 (i 1 rfl), a.e 16 (i 3 rfl).1]) (wished_any _ ⟨tab, [p0, p1, p2, p3], hh, [v2, v3], [v0, v1], slot, op⟩ l1 h1 l2 h2 l3 h3 l4 h4 l5 h5 wo _ _ _ [(lo, hi)] W ⟨_, _, _, _, _, _, _, _, _, rfl, hP.below m (Nat.le_refl _), hI1.below m (Nat.le_refl _), hI0.below m (Nat.le_refl _)⟩ (pp_block (xs := [(lo, hi)]) (i 3 rfl).2 rfl rfl)),
  fun f s W d i j k l a => opm (a.v 17 (i 4 rfl)), trivial⟩ ?_
 intro f2 s2 W2 hB2 g2 hg2 z2
 obtain ⟨r2_3, br2_3⟩ := hB2.is 3
 have lr2_3 := hB2.lr 3 br2_3
 have k2_10 := kt hg2 10 (hB2.is 5)
 refine wp_block ?_
 refine rw_ 3 [(19, 0), (20, 1), (18, 2)] [[], [0], [1]] (rel [iI (wishedErr ⟨tab, [p0, p1, p2, p3], hh, [v2, v3], [v0, v1], slot, op⟩ ⟨(l1, h1), (l2, h2), (l3, h3), (l4, h4), (l5, h5), wo⟩ [(lo, hi)]), iB ((wishedErr ⟨tab, [p0, p1, p2, p3], hh, [v2, v3], [v0, v1], slot, op⟩ ⟨(l1, h1), (l2, h2), (l3, h3), (l4, h4), (l5, h5), wo⟩ [(lo, hi)]) != 0), iB ((wishedErr ⟨tab, [p0, p1, p2, p3], hh, [v2, v3], [v0, v1], slot, op⟩ ⟨(l1, h1), (l2, h2), (l3, h3), (l4, h4), (l5, h5), wo⟩ [(lo, hi)]) != 0)])
  ⟨fun f s W d i j k l a => opm (a.v 10 k2_10),
  fun f s W d i j k l a => opv rfl rfl (by simp [go_sem, a.e 19 (i 0 rfl)]) rfl,
  fun f s W d i j k l a => opm (a.v 20 (i 1 rfl)), trivial⟩ ?_
 intro f3 s3 W3 hB3 g3 hg3 z3
 have k3_3 := kt hg3 3 (kt hg2 3 (kt hg1 3 k3))
 have k3_18 := kt hg3 18 (hB3.is 2)
 have hc5 : (fr 43 g3).eval (.tmp 18) = .bool false := ((fr_eval rfl).trans k3_18).trans (by rw [k])
 refine wp_cond_false (hc5) ?_
 refine rw_ 4 [(23, 0), (24, 1), (25, 2), (22, 3)] [[], [0], [1], [2]] (rel [iI off, iB (within 0 5 [off]), iB (!(within 0 5 [off])), iB (!(within 0 5 [off]))])
  ⟨fun f s W d i j k l a => opm (a.v 3 k3_3),
  fun f s W d i j k l a => opc rfl rfl (by simp [go_sem, a.e 23 (i 0 rfl)]) (isOff_any off W),
  fun f s W d i j k l a => opv rfl rfl (by simp [go_sem, a.e 24 (i 1 rfl)]) rfl,
  fun f s W d i j k l a => opm (a.v 25 (i 2 rfl)), trivial⟩ ?_
 intro f4 s4 W4 hB4 g4 hg4 z4
 have b4_0 := hB4.b (hB3.b (hB2.b br1_0))
 have k4_3 := kt hg4 3 k3_3
 have k4_4 := kt hg4 4 (kt hg3 4 (kt hg2 4 k1_4))
 have k4_22 := kt hg4 22 (hB4.is 3)
 have hc7 : (fr 43 g4).eval (.tmp 22) = .bool false := ((fr_eval rfl).trans k4_22).trans (by rw [hof])
 refine wp_cond_false (hc7) ?_
 refine wp_skip ?_
 refine ibn ?_
 refine hK2 _ _ ?_
 refine wp_seq_k fun K8 hK8 => ?_
 refine ry 5 [(26, 0), (27, 1), (28, 2), (29, 3), (11, 4)] [[], [0], [], [1, 2], [], [0, 1, 2, 3, 4]] (rel [is (.agg #[.int .i64 tab, .slice (some ⟨bp, ox, none⟩) 4 cp, .int .i64 hh, .slice (some ⟨q1, o1, none⟩) 2 m1, .slice (some ⟨q0, o0, none⟩) 2 m0, .int .i64 slot, .bool op]), is (.agg #[.int .i64 tab, .slice (some ⟨bp, ox, none⟩) 4 cp, .int .i64 hh, .slice (some ⟨q1, o1, none⟩) 2 m1, .slice (some ⟨q0, o0, none⟩) 2 m0, .int .i64 slot, .bool op]), iI off, is (.agg #[.int .i64 tab, .slice (some ⟨bp, ox, none⟩) 4 cp, .int .i64 hh, .slice (some ⟨q1, o1, none⟩) 2 m1, .slice (some ⟨q0, o0, none⟩) 2 m0, .int .i64 slot, .bool op, .int .i64 off]), bx 4 #[.int .i64 0, .slice none 0 0, .int .i64 0, .slice none 0 0, .slice none 0 0, .int .i64 0, .bool false, .int .i64 0] 127])
  ⟨fun f s W d i j k l a => opv rfl rfl (by simp [go_sem, a.e 4 k4_4, cb b4_0 d 0, cb b4_0 d 1, cb b4_0 d 2, cb b4_0 d 3, cb b4_0 d 4, cb b4_0 d 5, cb b4_0 d 6]) rfl,
  fun f s W d i j k l a => opv rfl rfl (by simp [go_sem, a.e 26 (i 0 rfl)]) rfl,
  fun f s W d i j k l a => opm (a.v 3 k4_3),
  fun f s W d i j k l a => opv rfl rfl (by simp [go_sem, a.e 27 (i 1 rfl), a.e 28 (i 2 rfl)]) rfl,
  fun f s W d i j k l a => opb rfl rfl (by simp [go_sem]), trivial⟩ ?_
 intro f5 s5 W5 hB5 g5 hg5 z5
 have fB5 := hB5.f (hB4.f (hB3.f (hB2.f fB1)))
 have b5_0 := hB5.b b4_0
 have b5_1 := hB5.b (hB4.b (hB3.b (hB2.b br1_1)))
 have b5_2 := hB5.b (hB4.b (hB3.b (hB2.b br1_2)))
 have b5_3 := hB5.b (hB4.b (hB3.b br2_3))
 obtain ⟨r5_4, br5_4⟩ := hB5.is 4
 have lr5_4 := hB5.lr 4 br5_4
 have k5_6 := kt hg5 6 (kt hg4 6 (kt hg3 6 (kt hg2 6 k1_6)))
 have k5_29 := kt hg5 29 (hB5.is 3)
 have k5_11 := kt hg5 11 r5_4
 obtain ⟨W6, hW6⟩ : ∃ W', W' = W5.setRow (s5 4) #[.int .i64 tab, .slice (some ⟨bp, ox, none⟩) 4 cp, .int .i64 hh, .slice (some ⟨q1, o1, none⟩) 2 m1, .slice (some ⟨q0, o0, none⟩) 2 m0, .int .i64 slot, .bool op, .int .i64 off] := ⟨_, rfl⟩
 refine tsk (o := _) rfl ⟨rfl, rfl⟩ (run_seg hW6 (fr_ev k5_11) (fr_ev k5_29) br5_4 rfl rfl rfl rfl) ?_
 obtain ⟨fB6, nb6, ot6, z6⟩ := sgf hW6 fB5 br5_4 (by omega)
 clear hW6
 have b6_0 := ot6 _ _ (by omega) b5_0
 have b6_1 := ot6 _ _ (by omega) b5_1
 have b6_2 := ot6 _ _ (by omega) b5_2
 have b6_3 := ot6 _ _ (by omega) b5_3
 refine wpe ?_
 refine hK8 _ _ ?_
 refine wp_seq_k fun K9 hK9 => ?_
 refine rw_ 3 [(30, 0), (31, 1), (12, 2)] [[], [0], [1]] (rel [is (.pointer (some ⟨(s1 2), 0, none⟩)), iI lo, iI lo])
  ⟨fun f s W d i j k l a => opv rfl rfl (by simp [go_sem, a.e 6 k5_6]) rfl,
  fun f s W d i j k l a => opv rfl rfl (by simp [go_sem, a.e 30 (i 0 rfl), cb b6_2 d 0]) rfl,
  fun f s W d i j k l a => opm (a.v 31 (i 1 rfl)), trivial⟩ ?_
 intro f7 s7 W7 hB7 g7 hg7 z7
 have fB7 := hB7.f fB6
 have b7_0 := hB7.b b6_0
 have b7_1 := hB7.b b6_1
 have b7_2 := hB7.b b6_2
 have b7_3 := hB7.b b6_3
 have b7_4 := hB7.b nb6
 have k7_5 := kt hg7 5 (kt hg5 5 (kt hg4 5 (kt hg3 5 (kt hg2 5 k1_5))))
 have k7_6 := kt hg7 6 k5_6
 have k7_11 := kt hg7 11 k5_11
 have k7_12 := kt hg7 12 (hB7.is 2)
 refine wp_block ?_
 refine wp_loop_n (fun m_ a_ W_ => ∃ g_ : Nat → Value, a_ = fr 43 g_ ∧ (∃ c : Int, m_ = (hi + 1 - c).toNat ∧ g_ 5 = .pointer (some ⟨(s1 1), 0, none⟩) ∧ g_ 6 = .pointer (some ⟨(s1 2), 0, none⟩) ∧ g_ 11 = .pointer (some ⟨(s5 4), 0, none⟩) ∧ g_ 12 = .int .i64 c ∧ Below w.heap.size w W_ ∧ W7.heap.size ≤ W_.heap.size ∧ W_.heap[(s1 0)]? = some (.cells #[.int .i64 tab, .slice (some ⟨bp, ox, none⟩) 4 cp, .int .i64 hh, .slice (some ⟨q1, o1, none⟩) 2 m1, .slice (some ⟨q0, o0, none⟩) 2 m0, .int .i64 slot, .bool op] 24 (0, 0)) ∧ W_.heap[(s1 1)]? = some (.cells #[.int .i64 l1, .int .i64 h1, .int .i64 l2, .int .i64 h2, .int .i64 l3, .int .i64 h3, .int .i64 l4, .int .i64 h4, .int .i64 l5, .int .i64 h5, .bool wo] 43 (0, 0)) ∧ W_.heap[(s1 2)]? = some (.cells #[.int .i64 lo, .int .i64 hi] 26 (0, 0)) ∧ W_.heap[(s2 3)]? = some (.cells #[.int .i64 lo, .int .i64 hi] 26 (0, 0)) ∧ W_.heap[(s5 4)]? = some (.cells #[.int .i64 tab, .slice (some ⟨bp, ox, none⟩) 4 cp, .int .i64 hh, .slice (some ⟨q1, o1, none⟩) 2 m1, .slice (some ⟨q0, o0, none⟩) 2 m0, .int .i64 slot, .bool op, .int .i64 off] 127 (0, 0)) ∧ (lo ≤ c) ∧ (c ≤ hi + 1 ∨ c = lo) ∧ (mayFrom F_ (hi + 1 - lo).toNat lo = mayFrom F_ (hi + 1 - c).toNat c))) ⟨_, g7, rfl, lo, rfl, k7_5, k7_6, k7_11, k7_12.trans (by rfl), fB7, Nat.le_refl _, b7_0, b7_1, b7_2, b7_3, b7_4, Int.le_refl _, .inr rfl, rfl⟩ ?_
 rintro _ _ W_3 ⟨g_3, rfl, c, rfl, k_3_5, k_3_6, k_3_11, k_3_12, fB_3, z_3, b_3_0, b_3_1, b_3_2, b_3_3, b_3_4, lp0, lp1, lp2⟩
 refine wp_seq_k fun K11 hK11 => ?_
 refine rw_ 4 [(32, 0), (33, 1), (34, 2), (35, 3)] [[], [], [1], [0, 2]] (rel [iI c, is (.pointer (some ⟨(s1 2), 1, none⟩)), iI hi, iB (decide (c ≤ hi))])
  ⟨fun f s W d i j k l a => opm (a.v 12 k_3_12),
  fun f s W d i j k l a => opv rfl rfl (by simp [go_sem, a.e 6 k_3_6]) rfl,
  fun f s W d i j k l a => opv rfl rfl (by simp [go_sem, a.e 33 (i 1 rfl), cb b_3_2 d 1]) rfl,
  fun f s W d i j k l a => opv rfl rfl (by simp [go_sem, a.e 32 (i 0 rfl), a.e 34 (i 2 rfl)]) rfl, trivial⟩ ?_
 intro f8 s8 W8 hB8 g8 hg8 z8
 have fB8 := hB8.f fB_3
 have b8_1 := hB8.b b_3_1
 have b8_4 := hB8.b b_3_4
 have k8_5 := kt hg8 5 k_3_5
 have k8_11 := kt hg8 11 k_3_11
 have k8_12 := kt hg8 12 k_3_12
 have k8_35 := kt hg8 35 (hB8.is 3)
 refine wp_cond_split (t := decide (c ≤ hi)) ((fr_eval rfl).trans k8_35) (fun hc13 => ?_) (fun hc13 => ?_)
 ·
  have hc13' := hc13; try simp only [ba] at hc13'
  refine wp_skip ?_
  refine hK11 _ _ ?_
  refine wp_seq_k fun K14 hK14 => ?_
  refine wp_block ?_
  refine rw_ 4 [(38, 0), (39, 1), (40, 2), (41, 3)] [[], [], [], [0, 1, 2]] (rel [is (.agg #[.int .i64 tab, .slice (some ⟨bp, ox, none⟩) 4 cp, .int .i64 hh, .slice (some ⟨q1, o1, none⟩) 2 m1, .slice (some ⟨q0, o0, none⟩) 2 m0, .int .i64 slot, .bool op, .int .i64 off]), is (.agg #[.int .i64 l1, .int .i64 h1, .int .i64 l2, .int .i64 h2, .int .i64 l3, .int .i64 h3, .int .i64 l4, .int .i64 h4, .int .i64 l5, .int .i64 h5, .bool wo]), iI c, iB (F_ c)])
   ⟨fun f s W d i j k l a => opv rfl rfl (by simp [go_sem, a.e 11 k8_11, cb b8_4 d 0, cb b8_4 d 1, cb b8_4 d 2, cb b8_4 d 3, cb b8_4 d 4, cb b8_4 d 5, cb b8_4 d 6, cb b8_4 d 7]) rfl,
  fun f s W d i j k l a => opv rfl rfl (by simp [go_sem, a.e 5 k8_5, cb b8_1 d 0, cb b8_1 d 1, cb b8_1 d 2, cb b8_1 d 3, cb b8_1 d 4, cb b8_1 d 5, cb b8_1 d 6, cb b8_1 d 7, cb b8_1 d 8, cb b8_1 d 9, cb b8_1 d 10]) rfl,
  fun f s W d i j k l a => opm (a.v 12 k8_12),
  fun f s W d i j k l a => opc (args := #[.agg #[.int .i64 tab, .slice (some ⟨bp, ox, none⟩) 4 cp, .int .i64 hh, .slice (some ⟨q1, o1, none⟩) 2 m1, .slice (some ⟨q0, o0, none⟩) 2 m0, .int .i64 slot, .bool op, .int .i64 off], .agg #[.int .i64 l1, .int .i64 h1, .int .i64 l2, .int .i64 h2, .int .i64 l3, .int .i64 h3, .int .i64 l4, .int .i64 h4, .int .i64 l5, .int .i64 h5, .bool wo], .int .i64 c]) rfl rfl (by simp [go_sem, a.e 38 (i 0 rfl), a.e 39 (i 1 rfl), a.e 40 (i 2 rfl)]) ((hFF c).symm ▸ closes_ne l1 h1 l2 h2 l3 h3 l4 h4 l5 h5 wo _ _ _ _ _ _ op off c W hwo), trivial⟩ ?_
  intro f9 s9 W9 hB9 g9 hg9 z9
  have fB9 := hB9.f fB8
  have k9_12 := kt hg9 12 k8_12
  have k9_41 := kt hg9 41 (hB9.is 3)
  refine wp_cond_split (t := F_ c) ((fr_eval rfl).trans k9_41) (fun hc16 => ?_) (fun hc16 => ?_)
  ·
   have hc16' := hc16; try simp only [ba] at hc16'
   refine rw_ 3 [(42, 0), (8, 1), (9, 2)] [[], [0], []] (rel [iI c, iI c, iI 0])
    ⟨fun f s W d i j k l a => opm (a.v 12 k9_12),
  fun f s W d i j k l a => opm (a.v 42 (i 0 rfl)),
  fun f s W d i j k l a => opz, trivial⟩ ?_
   intro f10 s10 W10 hB10 g10 hg10 z10
   have fB10 := hB10.f fB9
   have k10_8 := kt hg10 8 (hB10.is 1)
   have k10_9 := kt hg10 9 (hB10.is 2)
   refine wp_ret ?_
   refine inBlock_ret (then_ret (then_ret (inBlock_ret (then_ret ?_))))
   refine leave_gen (v := .tuple #[.int .i64 c, .int .i64 0]) (.inr rfl) (by simp [results, Tryz.results31, go_sem, frv 43 k10_8, frv 43 k10_9]) ?_
   exact ⟨by rw [lp2, show (hi + 1 - c).toNat = (hi + 1 - (c + 1)).toNat + 1 by omega]; simp only [mayFrom, hc16, if_true], fB10⟩
  ·
   have hc16' := hc16; try simp only [ba] at hc16'
   refine wp_skip ?_
   refine ibn ?_
   refine hK14 _ _ ?_
   refine ry 3 [(36, 0), (37, 1), (12, 2)] [[], [0], [0, 1]] (rel [iI c, iI (c + 1), iI (c + 1)])
    ⟨fun f s W d i j k l a => opm (a.v 12 ((k 2 12 rfl rfl).trans k9_12)),
  fun f s W d i j k l a => opv rfl rfl (by simp [go_sem, a.e 36 (i 0 rfl), IntWalk.i64_in (c + 1) (by omega)]) rfl,
  fun f s W d i j k l a => opm (a.v 37 (i 1 rfl)), trivial⟩ ?_
   intro f11 s11 W11 hB11 g11 hg11 z11
   have fB11 := hB11.f fB9
   have b11_0 := hB11.b (hB9.b (hB8.b b_3_0))
   have b11_1 := hB11.b (hB9.b b8_1)
   have b11_2 := hB11.b (hB9.b (hB8.b b_3_2))
   have b11_3 := hB11.b (hB9.b (hB8.b b_3_3))
   have b11_4 := hB11.b (hB9.b b8_4)
   refine wpe ?_
   have k11_5 := kt hg11 5 (kt hg9 5 k8_5)
   have k11_6 := kt hg11 6 (kt hg9 6 (kt hg8 6 k_3_6))
   have k11_11 := kt hg11 11 (kt hg9 11 k8_11)
   have k11_12 := kt hg11 12 (hB11.is 2)
   refine then_normal ?_
   exact ⟨_, by omega, g11, rfl, c + 1, rfl, k11_5, k11_6, k11_11, k11_12.trans (by rfl), fB11, (by omega), b11_0, b11_1, b11_2, b11_3, b11_4, by omega, .inl (by omega), by rw [lp2, show (hi + 1 - c).toNat = (hi + 1 - (c + 1)).toNat + 1 by omega]; simp only [mayFrom, hc16, if_false, Bool.false_eq_true]⟩
 ·
  have hc13' := hc13; try simp only [ba] at hc13'
  refine wp_exit ?_
  refine then_exit ?_
  refine then_exit ?_
  refine inBlock_at ?_
  refine hK9 _ _ ?_
  refine rw_ 2 [(8, 0), (9, 1)] [[], []] (rel [iI 0, iI 9])
   ⟨fun f s W d i j k l a => opz,
  fun f s W d i j k l a => opz, trivial⟩ ?_
  intro f12 s12 W12 hB12 g12 hg12 z12
  have fB12 := hB12.f fB8
  have k12_8 := kt hg12 8 (hB12.is 0)
  have k12_9 := kt hg12 9 (hB12.is 1)
  refine wp_ret ?_
  refine leave_gen (v := .tuple #[.int .i64 0, .int .i64 9]) (.inr rfl) (by simp [results, Tryz.results31, go_sem, frv 43 k12_8, frv 43 k12_9]) ?_
  rw [lp2, show (hi + 1 - c).toNat = 0 by omega]; exact ⟨rfl, fB12⟩
end Go.Proofs.YthnediamopehfaaGreat
