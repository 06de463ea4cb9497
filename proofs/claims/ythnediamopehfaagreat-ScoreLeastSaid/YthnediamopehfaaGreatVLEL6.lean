/- Part of the proof: what the claim leans on. -/
import Derived.Test.YthnediamopehfaaGreatVLES5
set_option maxHeartbeats 8000000
set_option maxRecDepth 100000
set_option linter.unusedSimpArgs false
set_option linter.unusedVariables false
namespace Go.Proofs.YthnediamopehfaaGreat
open Go.RowKit
def twinB (b : Bl) : Bl := ⟨b.tab, [b.panels.getD 0 0, b.panels.getD 1 0, b.panels.getD 0 0, b.panels.getD 1 0], b.height, if b.isOpen = true then [0, 0] else b.bottom, b.bottom, b.slot, b.isOpen⟩
theorem ints_own (a3 : Option Addr) (c3 : Nat) (u0 u1 : Int) (w : World) (h3 : Ii w a3 2 c3 [u0, u1]) :
  Calls Tryz.prog 72 #[.slice a3 2 c3] w (OwIP [u0, u1] 2 w) := by
 refine calls_fr Tryz.func72 Tryz.ntmps72 rfl rfl fun g hg => ?_
 have k0 : g 0 = .slice a3 2 c3 := hg 0
 clear hg
 have fB0 : Below w.heap.size w w := Below.refl _ _
 refine rw_ 1 [(2, 0)] [[]] (rel [is (.slice none 0 0)])
  ⟨fun f s W b c d i j a => opv rfl rfl (by simp [go_sem]) rfl, trivial⟩ ?_
 intro f1 s1 W1 hB1 g1 hg1 z1
 have fB1 := hB1.f fB0
 have k1_0 := kt hg1 0 k0
 refine rx 4 [(3, 0), (4, 1), (5, 2), (2, 3)] [[], [], [0, 1], [2]] (rel [row 0 0 #[] 3, is (.slice a3 2 c3), fun v s W => OwI (s 2) ([u0, u1]) 2 v W, fun v s W => OwI (s 2) ([u0, u1]) 2 v W])
  ⟨row_k, is_k, ⟨fun v k W W' hb h => h.below hb, fun v s s' W e h => by have h' : OwI (s 2) ([u0, u1]) 2 v W := h; show OwI (s' 2) ([u0, u1]) 2 v W; rw [← e 2 (by simp)]; exact h'⟩, ⟨fun v k W W' hb h => h.below hb, fun v s s' W e h => by have h' : OwI (s 2) ([u0, u1]) 2 v W := h; show OwI (s' 2) ([u0, u1]) 2 v W; rw [← e 2 (by simp)]; exact h'⟩, trivial⟩
  ⟨fun f s W b c d i j a => opr rfl rfl (by simp [go_sem]),
  fun f s W b c d i j a => opm (a.v 0 k1_0),
  fun f s W b c d i j a => by have l := bwt fB1 b; obtain ⟨v_, W_, r_, b_, i_⟩ := cloneO_run 22 W (s 0) (a3) (c3) ([u0, u1]) 2 ((h3.below l (Nat.le_refl _))) ((by decide)) ((by decide)) (c 0 rfl).2; exact opDo_value rfl rfl (run_appendOp (a.v 3 (c 0 rfl).1) (a.v 4 (c 1 rfl)) r_) b_ (show OwI (upd s 2 W.heap.size 2) ([u0, u1]) 2 v_ W_ from by rw [upd_at]; exact i_),
  fun f s W b c d i j a => opv (v := (f 2)) rfl rfl (by simp [go_sem, (a.at' 5 rfl : j.tmps[5]?.getD undef = f 2)] <;> rfl) (c 2 rfl), trivial⟩ ?_
 intro f2 s2 W2 hB2 g2 hg2 z2
 have fB2 := hB2.f fB1
 obtain ⟨r2_0, br2_0⟩ := hB2.is 0
 have lr2_0 := hB2.lr 0 br2_0
 obtain ⟨g4', c5', r2_3, q6'⟩ := hB2.is 3
 have la2_3 := hB2.from' 2 (by decide)
 have lo2_3_o := q6'.lim
 have q7' := q6'.low (B' := w.heap.size) (Nat.le_trans fB1.size (la2_3))
 have k2_2 := kt hg2 2 r2_3
 refine wp_ret ?_
 refine leave_one (N := 6) (.inr rfl) Tryz.results72 rfl k2_2 ?_
 exact ⟨_, rfl, ⟨_, _, rfl, q7'⟩, fB2⟩
theorem twin_any (a1 a2 : Option Addr) (g3 B : Nat) (c1 c2 c3 : Nat) (tab p0 p1 p2 p3 hh t0 t1 u0 u1 sl : Int) (op : Bool) (w : World) (h1 : Ii w a1 4 c1 [p0, p1, p2, p3]) (h2 : Ii w a2 2 c2 [t0, t1]) (h3o : OwnI B [u0, u1] g3 c3 w) :
  Calls Tryz.prog 33 #[.agg #[.int .i64 tab, .slice a1 4 c1, .int .i64 hh, .slice a2 2 c2, .slice (some ⟨g3, 0, none⟩) 2 c3, .int .i64 sl, .bool op]] w (fun e w' => ∃ v, e = .returned v ∧ TyBlk B (twinB ⟨tab, [p0, p1, p2, p3], hh, [t0, t1], [u0, u1], sl, op⟩) v w' ∧ Below w.heap.size w w') := by
 have h3 : Ii w (some ⟨g3, 0, none⟩) 2 c3 [u0, u1] := h3o.ii
 have hb0 := h3o.1
 have hb1 := h3o.2.1
 obtain ⟨q1, o1, hq1, hql1, hqc1⟩ := h1.at (by simp)
 refine calls_fr Tryz.func33 Tryz.ntmps33 rfl rfl fun g hg => ?_
 have k0 : g 0 = .agg #[.int .i64 tab, .slice a1 4 c1, .int .i64 hh, .slice a2 2 c2, .slice (some ⟨g3, 0, none⟩) 2 c3, .int .i64 sl, .bool op] := hg 0
 clear hg
 have fB0 : Below w.heap.size w w := Below.refl _ _
 refine rw_ 2 [(1, 0), (2, 1)] [[], []] (rel [bx 0 #[.int .i64 tab, .slice a1 4 c1, .int .i64 hh, .slice a2 2 c2, .slice (some ⟨g3, 0, none⟩) 2 c3, .int .i64 sl, .bool op] 24, bx 1 #[.int .i64 0, .slice none 0 0, .int .i64 0, .slice none 0 0, .slice none 0 0, .int .i64 0, .bool false] 24])
  ⟨fun f s W c d i j l a => opb rfl rfl (by simp [go_sem, a.e 0 k0]),
  fun f s W c d i j l a => opb rfl rfl (by simp [go_sem]), trivial⟩ ?_
 intro f1 s1 W1 hB1 g1 hg1 z1
 have fB1 := hB1.f fB0
 obtain ⟨r1_0, br1_0⟩ := hB1.is 0
 have lr1_0 := hB1.lr 0 br1_0
 obtain ⟨r1_1, br1_1⟩ := hB1.is 1
 have lr1_1 := hB1.lr 1 br1_1
 have ne1_0_1 := hB1.nb 0 1
 have k1_1 := kt hg1 1 r1_0
 refine wp_seq_k fun K2 hK2 => ?_
 refine ry 18 [(3, 0), (4, 1), (5, 2), (6, 3), (7, 4), (8, 5), (9, 6), (10, 7), (11, 8), (12, 9), (13, 10), (14, 11), (15, 12), (16, 13), (17, 14), (18, 15), (19, 16), (20, 17)] [[], [0], [1], [2], [], [4], [5], [6], [], [8], [9], [10], [], [12], [13], [14], [3, 7, 11, 15], [], [0, 1, 2, 3, 4, 5, 6, 7, 8, 9, 10, 11, 12, 13, 14, 15, 16, 17]] (rel [is (.pointer (some ⟨(s1 0), 1, none⟩)), is (.slice a1 4 c1), is (.pointer (some ⟨q1, o1, none⟩)), iI p0, is (.pointer (some ⟨(s1 0), 1, none⟩)), is (.slice a1 4 c1), is (.pointer (some ⟨q1, o1 + 1, none⟩)), iI p1, is (.pointer (some ⟨(s1 0), 1, none⟩)), is (.slice a1 4 c1), is (.pointer (some ⟨q1, o1, none⟩)), iI p0, is (.pointer (some ⟨(s1 0), 1, none⟩)), is (.slice a1 4 c1), is (.pointer (some ⟨q1, o1 + 1, none⟩)), iI p1, row 16 4 #[.int .i64 p0, .int .i64 p1, .int .i64 p0, .int .i64 p1] 3, is (.pointer (some ⟨(s1 0), 1, none⟩))])
  ⟨fun f s W c d i j l a => opv rfl rfl (by simp [go_sem, a.e 1 k1_1]) rfl,
  fun f s W c d i j l a => opv rfl rfl (by simp [go_sem, a.e 3 (d 0 rfl), cb br1_0 c 1]) rfl,
  fun f s W c d i j l a => opv rfl rfl (by simp [go_sem, a.e 4 (d 1 rfl), hq1]) rfl,
  fun f s W c d i j l a => by have m := bwt fB1 c; have u_ : W.cell? ⟨q1, o1, none⟩ = some (.int .i64 (p0)) := (m.cell (p := ⟨q1, o1, none⟩) hql1).trans (hqc1 0 (by simp)); exact opv rfl rfl (by simp [go_sem, a.e 5 (d 2 rfl), u_]) rfl,
  fun f s W c d i j l a => opv rfl rfl (by simp [go_sem, a.e 1 k1_1]) rfl,
  fun f s W c d i j l a => opv rfl rfl (by simp [go_sem, a.e 7 (d 4 rfl), cb br1_0 c 1]) rfl,
  fun f s W c d i j l a => opv rfl rfl (by simp [go_sem, a.e 8 (d 5 rfl), hq1]) rfl,
  fun f s W c d i j l a => by have m := bwt fB1 c; have u_ : W.cell? ⟨q1, o1 + 1, none⟩ = some (.int .i64 (p1)) := (m.cell (p := ⟨q1, o1 + 1, none⟩) hql1).trans (hqc1 1 (by simp)); exact opv rfl rfl (by simp [go_sem, a.e 9 (d 6 rfl), u_]) rfl,
  fun f s W c d i j l a => opv rfl rfl (by simp [go_sem, a.e 1 k1_1]) rfl,
  fun f s W c d i j l a => opv rfl rfl (by simp [go_sem, a.e 11 (d 8 rfl), cb br1_0 c 1]) rfl,
  fun f s W c d i j l a => opv rfl rfl (by simp [go_sem, a.e 12 (d 9 rfl), hq1]) rfl,
  fun f s W c d i j l a => by have m := bwt fB1 c; have u_ : W.cell? ⟨q1, o1, none⟩ = some (.int .i64 (p0)) := (m.cell (p := ⟨q1, o1, none⟩) hql1).trans (hqc1 0 (by simp)); exact opv rfl rfl (by simp [go_sem, a.e 13 (d 10 rfl), u_]) rfl,
  fun f s W c d i j l a => opv rfl rfl (by simp [go_sem, a.e 1 k1_1]) rfl,
  fun f s W c d i j l a => opv rfl rfl (by simp [go_sem, a.e 15 (d 12 rfl), cb br1_0 c 1]) rfl,
  fun f s W c d i j l a => opv rfl rfl (by simp [go_sem, a.e 16 (d 13 rfl), hq1]) rfl,
  fun f s W c d i j l a => by have m := bwt fB1 c; have u_ : W.cell? ⟨q1, o1 + 1, none⟩ = some (.int .i64 (p1)) := (m.cell (p := ⟨q1, o1 + 1, none⟩) hql1).trans (hqc1 1 (by simp)); exact opv rfl rfl (by simp [go_sem, a.e 17 (d 14 rfl), u_]) rfl,
  fun f s W c d i j l a => opr rfl rfl (by simp [go_sem, a.e 6 (d 3 rfl), a.e 10 (d 7 rfl), a.e 14 (d 11 rfl), a.e 18 (d 15 rfl)]),
  fun f s W c d i j l a => opv rfl rfl (by simp [go_sem, a.e 1 k1_1]) rfl, trivial⟩ ?_
 intro f2 s2 W2 hB2 g2 hg2 z2
 have fB2 := hB2.f fB1
 have b2_0 := hB2.b br1_0
 have b2_1 := hB2.b br1_1
 obtain ⟨r2_16, br2_16⟩ := hB2.is 16
 have lr2_16 := hB2.lr 16 br2_16
 have k2_1 := kt hg2 1 k1_1
 have k2_19 := kt hg2 19 r2_16
 have k2_20 := kt hg2 20 (hB2.is 17)
 obtain ⟨W3, hW3⟩ : ∃ W', W' = W2.setRow (s1 0) #[.int .i64 tab, .slice (some ⟨(s2 16), 0, none⟩) (4) (4), .int .i64 hh, .slice a2 2 c2, .slice (some ⟨g3, 0, none⟩) 2 c3, .int .i64 sl, .bool op] := ⟨_, rfl⟩
 refine tsk (o := _) rfl ⟨rfl, rfl⟩ (run_seg hW3 (fr_ev k2_20) (fr_ev k2_19) b2_0 rfl rfl rfl rfl) ?_
 obtain ⟨fB3, nb3, ot3, z3⟩ := sgf hW3 fB2 b2_0 (by omega)
 clear hW3
 have b3_1 := ot3 _ _ (by omega) b2_1
 have b3_2 := ot3 _ _ (by omega) br2_16
 refine wpe ?_
 refine hK2 _ _ ?_
 refine wp_seq_k fun K3 hK3 => ?_
 refine rz 4 [(21, 0), (22, 1), (23, 2), (24, 3)] [[], [0], [1], [], [0, 1, 2, 3]] (rel [is (.pointer (some ⟨(s1 0), 4, none⟩)), is (.slice (some ⟨g3, 0, none⟩) 2 c3), fun v s W => OwI (s 2) ([u0, u1]) 2 v W, is (.pointer (some ⟨(s1 0), 3, none⟩))])
  ⟨is_k, is_k, ⟨fun v k W W' hb h => h.below hb, fun v s s' W e h => by have h' : OwI (s 2) ([u0, u1]) 2 v W := h; show OwI (s' 2) ([u0, u1]) 2 v W; rw [← e 2 (by simp)]; exact h'⟩, is_k, trivial⟩
  ⟨fun f s W c d i j l a => opv rfl rfl (by simp [go_sem, a.e 1 k2_1]) rfl,
  fun f s W c d i j l a => opv rfl rfl (by simp [go_sem, a.e 21 (d 0 rfl), cb nb3 c 4]) rfl,
  fun f s W c d i j l a => by have m := bwt fB3 c; exact opd rfl rfl (by simp [go_sem, a.e 22 (d 1 rfl)]) (ints_own (some ⟨g3, 0, none⟩) c3 u0 u1 W (h3.below m (Nat.le_refl _))) (fun e W' h => by obtain ⟨v, e1, h1, h2⟩ := h; exact ⟨v, e1, h2, (show OwI (upd s 2 W.heap.size 2) ([u0, u1]) 2 v W' from by rw [upd_at]; exact h1)⟩),
  fun f s W c d i j l a => opv rfl rfl (by simp [go_sem, a.e 1 k2_1]) rfl, trivial⟩ ?_
 intro f4 s4 W4 hB4 g4 hg4 z4
 have fB4 := hB4.f fB3
 have b4_0 := hB4.b nb3
 have b4_1 := hB4.b b3_1
 have b4_2 := hB4.b b3_2
 obtain ⟨g8', c9', r4_2, q10'⟩ := hB4.is 2
 have la4_2 := hB4.from' 2 (by decide)
 have lo4_2_o := q10'.lim
 have q11' := q10'.low (B' := w.heap.size) (Nat.le_trans fB3.size (la4_2))
 have k4_1 := kt hg4 1 k2_1
 have k4_23 := kt hg4 23 r4_2
 have k4_24 := kt hg4 24 (hB4.is 3)
 obtain ⟨W5, hW5⟩ : ∃ W', W' = W4.setRow (s1 0) #[.int .i64 tab, .slice (some ⟨(s2 16), 0, none⟩) (4) (4), .int .i64 hh, .slice (some ⟨g8', 0, none⟩) 2 c9', .slice (some ⟨g3, 0, none⟩) 2 c3, .int .i64 sl, .bool op] := ⟨_, rfl⟩
 refine tsk (o := _) rfl ⟨rfl, rfl⟩ (run_seg hW5 (fr_ev k4_24) (fr_ev k4_23) b4_0 rfl rfl rfl rfl) ?_
 obtain ⟨fB5, nb5, ot5, z5⟩ := sgf hW5 fB4 b4_0 (by omega)
 clear hW5
 have b5_1 := ot5 _ _ (by omega) b4_1
 have b5_2 := ot5 _ _ (by omega) b4_2
 have q12' := q11'.other ot5 (by omega) z5
 refine wpe ?_
 refine hK3 _ _ ?_
 refine wp_seq_k fun K4 hK4 => ?_
 refine rw_ 2 [(25, 0), (26, 1)] [[], [0]] (rel [is (.pointer (some ⟨(s1 0), 6, none⟩)), iB op])
  ⟨fun f s W c d i j l a => opv rfl rfl (by simp [go_sem, a.e 1 k4_1]) rfl,
  fun f s W c d i j l a => opv rfl rfl (by simp [go_sem, a.e 25 (d 0 rfl), cb nb5 c 6]) rfl, trivial⟩ ?_
 intro f6 s6 W6 hB6 g6 hg6 z6
 have fB6 := hB6.f fB5
 have b6_0 := hB6.b nb5
 have b6_1 := hB6.b b5_1
 have b6_2 := hB6.b b5_2
 have q13' := (q12'.below hB6.below)
 have k6_1 := kt hg6 1 k4_1
 have k6_2 := kt hg6 2 (kt hg4 2 (kt hg2 2 (kt hg1 2 r1_1)))
 have k6_26 := kt hg6 26 (hB6.is 1)
 refine wp_cond_split (t := op) ((fr_eval rfl).trans k6_26) (fun hc6 => ?_) (fun hc6 => ?_)
 ·
  have hc6' := hc6; try simp only [ba] at hc6'
  refine ry 2 [(27, 0), (28, 1)] [[], [], [0, 1]] (rel [row 0 2 #[.int .i64 0, .int .i64 0] 3, is (.pointer (some ⟨(s1 0), 3, none⟩))])
   ⟨fun f s W c d i j l a => opr rfl rfl (by simp [go_sem]),
  fun f s W c d i j l a => opv rfl rfl (by simp [go_sem, a.e 1 k6_1]) rfl, trivial⟩ ?_
  intro f7 s7 W7 hB7 g7 hg7 z7
  have fB7 := hB7.f fB6
  have b7_0 := hB7.b b6_0
  have b7_1 := hB7.b b6_1
  have b7_2 := hB7.b b6_2
  have q14' := (q13'.below hB7.below)
  obtain ⟨r7_0, br7_0⟩ := hB7.is 0
  have lr7_0 := hB7.lr 0 br7_0
  have k7_1 := kt hg7 1 k6_1
  have k7_27 := kt hg7 27 r7_0
  have k7_28 := kt hg7 28 (hB7.is 1)
  obtain ⟨W8, hW8⟩ : ∃ W', W' = W7.setRow (s1 0) #[.int .i64 tab, .slice (some ⟨(s2 16), 0, none⟩) (4) (4), .int .i64 hh, .slice (some ⟨(s7 0), 0, none⟩) (2) (2), .slice (some ⟨g3, 0, none⟩) 2 c3, .int .i64 sl, .bool op] := ⟨_, rfl⟩
  refine tsk (o := _) rfl ⟨rfl, rfl⟩ (run_seg hW8 (fr_ev k7_28) (fr_ev k7_27) b7_0 rfl rfl rfl rfl) ?_
  obtain ⟨fB8, nb8, ot8, z8⟩ := sgf hW8 fB7 b7_0 (by omega)
  clear hW8
  have b8_1 := ot8 _ _ (by omega) b7_1
  have b8_2 := ot8 _ _ (by omega) b7_2
  have b8_3 := ot8 _ _ (by omega) br7_0
  have q15' := q14'.other ot8 (by omega) z8
  refine wpe ?_
  refine hK4 _ _ ?_
  refine wp_seq_k fun K7 hK7 => ?_
  refine ry 1 [(29, 0)] [[], [0]] (rel [is (.agg #[.int .i64 tab, .slice (some ⟨(s2 16), 0, none⟩) (4) (4), .int .i64 hh, .slice (some ⟨(s7 0), 0, none⟩) (2) (2), .slice (some ⟨g3, 0, none⟩) 2 c3, .int .i64 sl, .bool op])])
   ⟨fun f s W c d i j l a => opv rfl rfl (by simp [go_sem, a.e 1 k7_1, cb nb8 c 0, cb nb8 c 1, cb nb8 c 2, cb nb8 c 3, cb nb8 c 4, cb nb8 c 5, cb nb8 c 6]) rfl, trivial⟩ ?_
  intro f9 s9 W9 hB9 g9 hg9 z9
  have fB9 := hB9.f fB8
  have b9_1 := hB9.b b8_1
  have b9_2 := hB9.b b8_2
  have b9_3 := hB9.b b8_3
  have q16' := (q15'.below hB9.below)
  have k9_2 := kt hg9 2 (kt hg7 2 k6_2)
  have k9_29 := kt hg9 29 (hB9.is 0)
  obtain ⟨W10, hW10⟩ : ∃ W', W' = W9.setRow (s1 1) #[.int .i64 tab, .slice (some ⟨(s2 16), 0, none⟩) (4) (4), .int .i64 hh, .slice (some ⟨(s7 0), 0, none⟩) (2) (2), .slice (some ⟨g3, 0, none⟩) 2 c3, .int .i64 sl, .bool op] := ⟨_, rfl⟩
  refine tsk (o := _) rfl ⟨rfl, rfl⟩ (run_seg hW10 (fr_ev k9_2) (fr_ev k9_29) b9_1 rfl rfl rfl rfl) ?_
  obtain ⟨fB10, nb10, ot10, z10⟩ := sgf hW10 fB9 b9_1 (by omega)
  clear hW10
  have b10_2 := ot10 _ _ (by omega) b9_2
  have b10_3 := ot10 _ _ (by omega) b9_3
  have q17' := q16'.other ot10 (by omega) z10
  refine wpe ?_
  refine hK7 _ _ ?_
  refine wp_ret ?_
  refine leave_gen (v := .agg #[.int .i64 tab, .slice (some ⟨(s2 16), 0, none⟩) (4) (4), .int .i64 hh, .slice (some ⟨(s7 0), 0, none⟩) (2) (2), .slice (some ⟨g3, 0, none⟩) 2 c3, .int .i64 sl, .bool op]) (.inr rfl) (by simp [results, Tryz.results33, go_sem, frv 30 k9_2, cl nb10 0, cl nb10 1, cl nb10 2, cl nb10 3, cl nb10 4, cl nb10 5, cl nb10 6]) ?_
  subst hc6
  exact ⟨_, rfl, ⟨_, _, _, _, _, _, rfl, ownI_lit (xs := [p0, p1, p0, p1]) b10_2 (by omega) rfl rfl, ownI_lit (xs := [0, 0]) b10_3 (by omega) rfl rfl, h3o.below fB10⟩, fB10⟩
 ·
  have hc6' := hc6; try simp only [ba] at hc6'
  refine wp_skip ?_
  refine hK4 _ _ ?_
  refine wp_seq_k fun K8 hK8 => ?_
  refine ry 1 [(29, 0)] [[], [0]] (rel [is (.agg #[.int .i64 tab, .slice (some ⟨(s2 16), 0, none⟩) (4) (4), .int .i64 hh, .slice (some ⟨g8', 0, none⟩) 2 c9', .slice (some ⟨g3, 0, none⟩) 2 c3, .int .i64 sl, .bool op])])
   ⟨fun f s W c d i j l a => opv rfl rfl (by simp [go_sem, a.e 1 k6_1, cb b6_0 c 0, cb b6_0 c 1, cb b6_0 c 2, cb b6_0 c 3, cb b6_0 c 4, cb b6_0 c 5, cb b6_0 c 6]) rfl, trivial⟩ ?_
  intro f11 s11 W11 hB11 g11 hg11 z11
  have fB11 := hB11.f fB6
  have b11_1 := hB11.b b6_1
  have b11_2 := hB11.b b6_2
  have q18' := (q13'.below hB11.below)
  have k11_2 := kt hg11 2 k6_2
  have k11_29 := kt hg11 29 (hB11.is 0)
  obtain ⟨W12, hW12⟩ : ∃ W', W' = W11.setRow (s1 1) #[.int .i64 tab, .slice (some ⟨(s2 16), 0, none⟩) (4) (4), .int .i64 hh, .slice (some ⟨g8', 0, none⟩) 2 c9', .slice (some ⟨g3, 0, none⟩) 2 c3, .int .i64 sl, .bool op] := ⟨_, rfl⟩
  refine tsk (o := _) rfl ⟨rfl, rfl⟩ (run_seg hW12 (fr_ev k11_2) (fr_ev k11_29) b11_1 rfl rfl rfl rfl) ?_
  obtain ⟨fB12, nb12, ot12, z12⟩ := sgf hW12 fB11 b11_1 (by omega)
  clear hW12
  have b12_2 := ot12 _ _ (by omega) b11_2
  have q19' := q18'.other ot12 (by omega) z12
  refine wpe ?_
  refine hK8 _ _ ?_
  refine wp_ret ?_
  refine leave_gen (v := .agg #[.int .i64 tab, .slice (some ⟨(s2 16), 0, none⟩) (4) (4), .int .i64 hh, .slice (some ⟨g8', 0, none⟩) 2 c9', .slice (some ⟨g3, 0, none⟩) 2 c3, .int .i64 sl, .bool op]) (.inr rfl) (by simp [results, Tryz.results33, go_sem, frv 30 k11_2, cl nb12 0, cl nb12 1, cl nb12 2, cl nb12 3, cl nb12 4, cl nb12 5, cl nb12 6]) ?_
  subst hc6
  exact ⟨_, rfl, ⟨_, _, _, _, _, _, rfl, ownI_lit (xs := [p0, p1, p0, p1]) b12_2 (by omega) rfl rfl, q19'.low (by omega), h3o.below fB12⟩, fB12⟩
def wishOf (x : Sh) (b : Bl) (lo hi : Int) : Wi :=
  let m := fun (k : Nat) (w : Int) => aroundS ((microsOf b hi).getD k 0) ((microsOf b lo).getD k 0) w
  ⟨limS (m 0 (x.v0 % 4)) 0 3000, limS (m 1 (x.v1 % 4)) 0 3000, limS (m 4 (x.v2 % 4)) 0 3000, limS (m 7 (x.v3 % 6)) (-3000) 3000, limS (m 8 (x.v4 % 6)) (-3000) 3000, b.isOpen⟩
theorem wishS_any (x0 x1 x2 x3 xh y0 y1 y2 y3 : Int) (xo : Bool) (ca cb v0 v1 v2 v3 v4 : Int) (a1 a2 a3 : Option Addr) (c1 c2 c3 : Nat) (tab p0 p1 p2 p3 hh t0 t1 u0 u1 sl : Int) (op : Bool) (lo hi : Int) (w : World) (h1 : Ii w a1 4 c1 [p0, p1, p2, p3]) (h2 : Ii w a2 2 c2 [t0, t1]) (h3 : Ii w a3 2 c3 [u0, u1]) (gx0 : 0 ≤ x0 ∧ x0 ≤ 255) (gx1 : 0 ≤ x1 ∧ x1 ≤ 255) (gx2 : 0 ≤ x2 ∧ x2 ≤ 255) (gx3 : 0 ≤ x3 ∧ x3 ≤ 255) (gxh : 0 ≤ xh ∧ xh ≤ 255) (gy0 : 0 ≤ y0 ∧ y0 ≤ 255) (gy1 : 0 ≤ y1 ∧ y1 ≤ 255) (gy2 : 0 ≤ y2 ∧ y2 ≤ 255) (gy3 : 0 ≤ y3 ∧ y3 ≤ 255) (gca : 0 ≤ ca ∧ ca ≤ 255) (gcb : 0 ≤ cb ∧ cb ≤ 255) (gv0 : 0 ≤ v0 ∧ v0 ≤ 255) (gv1 : 0 ≤ v1 ∧ v1 ≤ 255) (gv2 : 0 ≤ v2 ∧ v2 ≤ 255) (gv3 : 0 ≤ v3 ∧ v3 ≤ 255) (gv4 : 0 ≤ v4 ∧ v4 ≤ 255) (gp0 : 0 ≤ p0 ∧ p0 ≤ 4000) (gp1 : 0 ≤ p1 ∧ p1 ≤ 4000) (gp2 : 0 ≤ p2 ∧ p2 ≤ 4000) (gp3 : 0 ≤ p3 ∧ p3 ≤ 4000) (ghh : 0 ≤ hh ∧ hh ≤ 4000) (gt0 : 0 ≤ t0 ∧ t0 ≤ 4000) (gt1 : 0 ≤ t1 ∧ t1 ≤ 4000) (gu0 : 0 ≤ u0 ∧ u0 ≤ 4000) (gu1 : 0 ≤ u1 ∧ u1 ≤ 4000) (glo : 0 ≤ lo ∧ lo ≤ 100000) (ghi : 0 ≤ hi ∧ hi ≤ 100000) :
  Calls Tryz.prog 36 #[.agg #[.int .u8 x0, .int .u8 x1, .int .u8 x2, .int .u8 x3, .int .u8 xh, .int .u8 y0, .int .u8 y1, .int .u8 y2, .int .u8 y3, .bool xo, .int .u8 ca, .int .u8 cb, .int .u8 v0, .int .u8 v1, .int .u8 v2, .int .u8 v3, .int .u8 v4], .agg #[.int .i64 tab, .slice a1 4 c1, .int .i64 hh, .slice a2 2 c2, .slice a3 2 c3, .int .i64 sl, .bool op], .agg #[.int .i64 lo, .int .i64 hi]] w (fun e w' => e = .returned (.agg #[.int .i64 (wishOf ⟨x0, x1, x2, x3, xh, y0, y1, y2, y3, xo, ca, cb, v0, v1, v2, v3, v4⟩ ⟨tab, [p0, p1, p2, p3], hh, [t0, t1], [u0, u1], sl, op⟩ lo hi).length.1, .int .i64 (wishOf ⟨x0, x1, x2, x3, xh, y0, y1, y2, y3, xo, ca, cb, v0, v1, v2, v3, v4⟩ ⟨tab, [p0, p1, p2, p3], hh, [t0, t1], [u0, u1], sl, op⟩ lo hi).length.2, .int .i64 (wishOf ⟨x0, x1, x2, x3, xh, y0, y1, y2, y3, xo, ca, cb, v0, v1, v2, v3, v4⟩ ⟨tab, [p0, p1, p2, p3], hh, [t0, t1], [u0, u1], sl, op⟩ lo hi).width.1, .int .i64 (wishOf ⟨x0, x1, x2, x3, xh, y0, y1, y2, y3, xo, ca, cb, v0, v1, v2, v3, v4⟩ ⟨tab, [p0, p1, p2, p3], hh, [t0, t1], [u0, u1], sl, op⟩ lo hi).width.2, .int .i64 (wishOf ⟨x0, x1, x2, x3, xh, y0, y1, y2, y3, xo, ca, cb, v0, v1, v2, v3, v4⟩ ⟨tab, [p0, p1, p2, p3], hh, [t0, t1], [u0, u1], sl, op⟩ lo hi).height.1, .int .i64 (wishOf ⟨x0, x1, x2, x3, xh, y0, y1, y2, y3, xo, ca, cb, v0, v1, v2, v3, v4⟩ ⟨tab, [p0, p1, p2, p3], hh, [t0, t1], [u0, u1], sl, op⟩ lo hi).height.2, .int .i64 (wishOf ⟨x0, x1, x2, x3, xh, y0, y1, y2, y3, xo, ca, cb, v0, v1, v2, v3, v4⟩ ⟨tab, [p0, p1, p2, p3], hh, [t0, t1], [u0, u1], sl, op⟩ lo hi).outer.1, .int .i64 (wishOf ⟨x0, x1, x2, x3, xh, y0, y1, y2, y3, xo, ca, cb, v0, v1, v2, v3, v4⟩ ⟨tab, [p0, p1, p2, p3], hh, [t0, t1], [u0, u1], sl, op⟩ lo hi).outer.2, .int .i64 (wishOf ⟨x0, x1, x2, x3, xh, y0, y1, y2, y3, xo, ca, cb, v0, v1, v2, v3, v4⟩ ⟨tab, [p0, p1, p2, p3], hh, [t0, t1], [u0, u1], sl, op⟩ lo hi).inner.1, .int .i64 (wishOf ⟨x0, x1, x2, x3, xh, y0, y1, y2, y3, xo, ca, cb, v0, v1, v2, v3, v4⟩ ⟨tab, [p0, p1, p2, p3], hh, [t0, t1], [u0, u1], sl, op⟩ lo hi).inner.2, .bool op]) ∧ Below w.heap.size w w') := by
 obtain ⟨m4hi, hm4hi⟩ : ∃ y : Int, (if op = true then 1000 * hh - 2 * hi + hi else 1000 * hh - 2 * hi) = y := ⟨_, rfl⟩
 have hb4hi : -1000000 ≤ m4hi ∧ m4hi ≤ 5000000 := by rw [← hm4hi]; split <;> omega
 obtain ⟨m4lo, hm4lo⟩ : ∃ y : Int, (if op = true then 1000 * hh - 2 * lo + lo else 1000 * hh - 2 * lo) = y := ⟨_, rfl⟩
 have hb4lo : -1000000 ≤ m4lo ∧ m4lo ≤ 5000000 := by rw [← hm4lo]; split <;> omega
 refine calls_fr Tryz.func36 Tryz.ntmps36 rfl rfl fun g hg => ?_
 have k0 : g 0 = .agg #[.int .u8 x0, .int .u8 x1, .int .u8 x2, .int .u8 x3, .int .u8 xh, .int .u8 y0, .int .u8 y1, .int .u8 y2, .int .u8 y3, .bool xo, .int .u8 ca, .int .u8 cb, .int .u8 v0, .int .u8 v1, .int .u8 v2, .int .u8 v3, .int .u8 v4] := hg 0
 have k1 : g 1 = .agg #[.int .i64 tab, .slice a1 4 c1, .int .i64 hh, .slice a2 2 c2, .slice a3 2 c3, .int .i64 sl, .bool op] := hg 1
 have k2 : g 2 = .agg #[.int .i64 lo, .int .i64 hi] := hg 2
 clear hg
 have fB0 : Below w.heap.size w w := Below.refl _ _
 refine rw_ 4 [(3, 0), (4, 1), (5, 2), (6, 3)] [[], [], [], []] (rel [bx 0 #[.int .u8 x0, .int .u8 x1, .int .u8 x2, .int .u8 x3, .int .u8 xh, .int .u8 y0, .int .u8 y1, .int .u8 y2, .int .u8 y3, .bool xo, .int .u8 ca, .int .u8 cb, .int .u8 v0, .int .u8 v1, .int .u8 v2, .int .u8 v3, .int .u8 v4] 72, bx 1 #[.int .i64 tab, .slice a1 4 c1, .int .i64 hh, .slice a2 2 c2, .slice a3 2 c3, .int .i64 sl, .bool op] 24, bx 2 #[.int .i64 lo, .int .i64 hi] 26, bx 3 #[.int .i64 0, .int .i64 0, .int .i64 0, .int .i64 0, .int .i64 0, .int .i64 0, .int .i64 0, .int .i64 0, .int .i64 0, .int .i64 0, .bool false] 43])
  ⟨fun f s W c d i j k a => opb rfl rfl (by simp [go_sem, a.e 0 k0]),
  fun f s W c d i j k a => opb rfl rfl (by simp [go_sem, a.e 1 k1]),
  fun f s W c d i j k a => opb rfl rfl (by simp [go_sem, a.e 2 k2]),
  fun f s W c d i j k a => opb rfl rfl (by simp [go_sem]), trivial⟩ ?_
 intro f1 s1 W1 hB1 g1 hg1 z1
 have fB1 := hB1.f fB0
 obtain ⟨r1_0, br1_0⟩ := hB1.is 0
 have lr1_0 := hB1.lr 0 br1_0
 obtain ⟨r1_1, br1_1⟩ := hB1.is 1
 have lr1_1 := hB1.lr 1 br1_1
 obtain ⟨r1_2, br1_2⟩ := hB1.is 2
 have lr1_2 := hB1.lr 2 br1_2
 obtain ⟨r1_3, br1_3⟩ := hB1.is 3
 have lr1_3 := hB1.lr 3 br1_3
 have ne1_0_1 := hB1.nb 0 1
 have ne1_0_2 := hB1.nb 0 2
 have ne1_1_2 := hB1.nb 1 2
 have ne1_0_3 := hB1.nb 0 3
 have ne1_1_3 := hB1.nb 1 3
 have ne1_2_3 := hB1.nb 2 3
 have k1_4 := kt hg1 4 r1_1
 have k1_5 := kt hg1 5 r1_2
 refine wp_seq_k fun K2 hK2 => ?_
 refine ry 10 [(10, 0), (11, 1), (12, 2), (13, 3), (14, 4), (15, 5), (16, 6), (17, 7), (7, 8), (8, 9)] [[], [], [1], [0, 2], [], [], [5], [4, 5, 6], [], [], [0, 1, 2, 3, 4, 5, 6, 7, 8, 9], [0, 1, 2, 3, 4, 5, 6, 7, 8, 9, 10]] (rel [is (.agg #[.int .i64 tab, .slice a1 4 c1, .int .i64 hh, .slice a2 2 c2, .slice a3 2 c3, .int .i64 sl, .bool op]), is (.pointer (some ⟨(s1 2), 1, none⟩)), iI hi, is (.agg #[.int .i64 (1000 * p0 - hi), .int .i64 (1000 * p1 - hi), .int .i64 (1000 * p2 - hi), .int .i64 (1000 * p3 - hi), .int .i64 m4hi, .int .i64 ((1000 * p1 - hi) - 2000 * t0), .int .i64 ((1000 * p0 - hi) - 2000 * t1), .int .i64 ((1000 * p1 - hi) - 2000 * u0), .int .i64 ((1000 * p0 - hi) - 2000 * u1)]), is (.agg #[.int .i64 tab, .slice a1 4 c1, .int .i64 hh, .slice a2 2 c2, .slice a3 2 c3, .int .i64 sl, .bool op]), is (.pointer (some ⟨(s1 2), 0, none⟩)), iI lo, is (.agg #[.int .i64 (1000 * p0 - lo), .int .i64 (1000 * p1 - lo), .int .i64 (1000 * p2 - lo), .int .i64 (1000 * p3 - lo), .int .i64 m4lo, .int .i64 ((1000 * p1 - lo) - 2000 * t0), .int .i64 ((1000 * p0 - lo) - 2000 * t1), .int .i64 ((1000 * p1 - lo) - 2000 * u0), .int .i64 ((1000 * p0 - lo) - 2000 * u1)]), bx 8 #[.int .i64 0, .int .i64 0, .int .i64 0, .int .i64 0, .int .i64 0, .int .i64 0, .int .i64 0, .int .i64 0, .int .i64 0] 76, bx 9 #[.int .i64 0, .int .i64 0, .int .i64 0, .int .i64 0, .int .i64 0, .int .i64 0, .int .i64 0, .int .i64 0, .int .i64 0] 76])
  ⟨fun f s W c d i j k a => opv rfl rfl (by simp [go_sem, a.e 4 k1_4, cl (bwb br1_1 c) 0, cl (bwb br1_1 c) 1, cl (bwb br1_1 c) 2, cl (bwb br1_1 c) 3, cl (bwb br1_1 c) 4, cl (bwb br1_1 c) 5, cl (bwb br1_1 c) 6]) rfl,
  fun f s W c d i j k a => opv rfl rfl (by simp [go_sem, a.e 5 k1_5]) rfl,
  fun f s W c d i j k a => opv rfl rfl (by simp [go_sem, a.e 11 (d 1 rfl), cl (bwb br1_2 c) 1]) rfl,
  fun f s W c d i j k a => by have l := bwt fB1 c; exact opd rfl rfl (by simp [go_sem, a.e 10 (d 0 rfl), a.e 12 (d 2 rfl)]) (micros_any a1 a2 a3 c1 c2 c3 tab p0 p1 p2 p3 hh t0 t1 u0 u1 sl op hi W (h1.below l (Nat.le_refl _)) (h2.below l (Nat.le_refl _)) (h3.below l (Nat.le_refl _)) gp0 gp1 gp2 gp3 ghh gt0 gt1 gu0 gu1 (by omega)) ((fun e W' h => ⟨_, h.1, h.2, by rw [← hm4hi]; rfl⟩)),
  fun f s W c d i j k a => opv rfl rfl (by simp [go_sem, a.e 4 k1_4, cl (bwb br1_1 c) 0, cl (bwb br1_1 c) 1, cl (bwb br1_1 c) 2, cl (bwb br1_1 c) 3, cl (bwb br1_1 c) 4, cl (bwb br1_1 c) 5, cl (bwb br1_1 c) 6]) rfl,
  fun f s W c d i j k a => opv rfl rfl (by simp [go_sem, a.e 5 k1_5]) rfl,
  fun f s W c d i j k a => opv rfl rfl (by simp [go_sem, a.e 15 (d 5 rfl), cl (bwb br1_2 c) 0]) rfl,
  fun f s W c d i j k a => by have l := bwt fB1 c; exact opd rfl rfl (by simp [go_sem, a.e 14 (d 4 rfl), a.e 16 (d 6 rfl)]) (micros_any a1 a2 a3 c1 c2 c3 tab p0 p1 p2 p3 hh t0 t1 u0 u1 sl op lo W (h1.below l (Nat.le_refl _)) (h2.below l (Nat.le_refl _)) (h3.below l (Nat.le_refl _)) gp0 gp1 gp2 gp3 ghh gt0 gt1 gu0 gu1 (by omega)) ((fun e W' h => ⟨_, h.1, h.2, by rw [← hm4lo]; rfl⟩)),
  fun f s W c d i j k a => opb rfl rfl (by simp [go_sem]),
  fun f s W c d i j k a => opb rfl rfl (by simp [go_sem]), trivial⟩ ?_
 intro f2 s2 W2 hB2 g2 hg2 z2
 have fB2 := hB2.f fB1
 have b2_0 := hB2.b br1_0
 have b2_1 := hB2.b br1_1
 have b2_3 := hB2.b br1_3
 obtain ⟨r2_8, br2_8⟩ := hB2.is 8
 have lr2_8 := hB2.lr 8 br2_8
 obtain ⟨r2_9, br2_9⟩ := hB2.is 9
 have lr2_9 := hB2.lr 9 br2_9
 have ne2_8_9 := hB2.nb 8 9
 have k2_4 := kt hg2 4 k1_4
 have k2_13 := kt hg2 13 (hB2.is 3)
 have k2_17 := kt hg2 17 (hB2.is 7)
 have k2_7 := kt hg2 7 r2_8
 have k2_8 := kt hg2 8 r2_9
 obtain ⟨W3, hW3⟩ : ∃ W', W' = W2.setRow (s2 8) #[.int .i64 (1000 * p0 - hi), .int .i64 (1000 * p1 - hi), .int .i64 (1000 * p2 - hi), .int .i64 (1000 * p3 - hi), .int .i64 m4hi, .int .i64 ((1000 * p1 - hi) - 2000 * t0), .int .i64 ((1000 * p0 - hi) - 2000 * t1), .int .i64 ((1000 * p1 - hi) - 2000 * u0), .int .i64 ((1000 * p0 - hi) - 2000 * u1)] := ⟨_, rfl⟩
 refine tsk (o := _) rfl ⟨rfl, rfl⟩ (run_seg hW3 (fr_ev k2_7) (fr_ev k2_13) br2_8 rfl rfl rfl rfl) ?_
 obtain ⟨fB3, nb3, ot3, z3⟩ := sgf hW3 fB2 br2_8 (by omega)
 clear hW3
 have b3_0 := ot3 _ _ (by omega) b2_0
 have b3_1 := ot3 _ _ (by omega) b2_1
 have b3_3 := ot3 _ _ (by omega) b2_3
 have b3_5 := ot3 _ _ (by omega) br2_9
 obtain ⟨W4, hW4⟩ : ∃ W', W' = W3.setRow (s2 9) #[.int .i64 (1000 * p0 - lo), .int .i64 (1000 * p1 - lo), .int .i64 (1000 * p2 - lo), .int .i64 (1000 * p3 - lo), .int .i64 m4lo, .int .i64 ((1000 * p1 - lo) - 2000 * t0), .int .i64 ((1000 * p0 - lo) - 2000 * t1), .int .i64 ((1000 * p1 - lo) - 2000 * u0), .int .i64 ((1000 * p0 - lo) - 2000 * u1)] := ⟨_, rfl⟩
 refine tsk (o := _) rfl ⟨rfl, rfl⟩ (run_seg hW4 (fr_ev k2_8) (fr_ev k2_17) b3_5 rfl rfl rfl rfl) ?_
 obtain ⟨fB4, nb4, ot4, z4⟩ := sgf hW4 fB3 b3_5 (by omega)
 clear hW4
 have b4_0 := ot4 _ _ (by omega) b3_0
 have b4_1 := ot4 _ _ (by omega) b3_1
 have b4_3 := ot4 _ _ (by omega) b3_3
 have b4_4 := ot4 _ _ (by omega) nb3
 refine wpe ?_
 refine hK2 _ _ ?_
 refine wp_seq_k fun K3 hK3 => ?_
 refine ry 4 [(18, 0), (19, 1), (20, 2), (9, 3)] [[], [0], [1], [], [0, 1, 2, 3]] (rel [is (.pointer (some ⟨(s1 1), 6, none⟩)), iB op, is (.agg #[.int .i64 0, .int .i64 0, .int .i64 0, .int .i64 0, .int .i64 0, .int .i64 0, .int .i64 0, .int .i64 0, .int .i64 0, .int .i64 0, .bool op]), bx 3 #[.int .i64 0, .int .i64 0, .int .i64 0, .int .i64 0, .int .i64 0, .int .i64 0, .int .i64 0, .int .i64 0, .int .i64 0, .int .i64 0, .bool false] 43])
  ⟨fun f s W c d i j k a => opv rfl rfl (by simp [go_sem, a.e 4 k2_4]) rfl,
  fun f s W c d i j k a => opv rfl rfl (by simp [go_sem, a.e 18 (d 0 rfl), cl (bwb b4_1 c) 6]) rfl,
  fun f s W c d i j k a => opv rfl rfl (by simp [go_sem, a.e 19 (d 1 rfl)]) rfl,
  fun f s W c d i j k a => opb rfl rfl (by simp [go_sem]), trivial⟩ ?_
 intro f5 s5 W5 hB5 g5 hg5 z5
 have fB5 := hB5.f fB4
 have b5_0 := hB5.b b4_0
 have b5_3 := hB5.b b4_3
 have b5_4 := hB5.b b4_4
 have b5_5 := hB5.b nb4
 obtain ⟨r5_3, br5_3⟩ := hB5.is 3
 have lr5_3 := hB5.lr 3 br5_3
 have k5_3 := kt hg5 3 (kt hg2 3 (kt hg1 3 r1_0))
 have k5_7 := kt hg5 7 k2_7
 have k5_8 := kt hg5 8 k2_8
 have k5_20 := kt hg5 20 (hB5.is 2)
 have k5_9 := kt hg5 9 r5_3
 obtain ⟨W6, hW6⟩ : ∃ W', W' = W5.setRow (s5 3) #[.int .i64 0, .int .i64 0, .int .i64 0, .int .i64 0, .int .i64 0, .int .i64 0, .int .i64 0, .int .i64 0, .int .i64 0, .int .i64 0, .bool op] := ⟨_, rfl⟩
 refine tsk (o := _) rfl ⟨rfl, rfl⟩ (run_seg hW6 (fr_ev k5_9) (fr_ev k5_20) br5_3 rfl rfl rfl rfl) ?_
 obtain ⟨fB6, nb6, ot6, z6⟩ := sgf hW6 fB5 br5_3 (by omega)
 clear hW6
 have b6_0 := ot6 _ _ (by omega) b5_0
 have b6_3 := ot6 _ _ (by omega) b5_3
 have b6_4 := ot6 _ _ (by omega) b5_4
 have b6_5 := ot6 _ _ (by omega) b5_5
 refine wpe ?_
 refine hK3 _ _ ?_
 refine wp_seq_k fun K4 hK4 => ?_
 refine ry 12 [(21, 0), (22, 1), (23, 2), (24, 3), (25, 4), (26, 5), (27, 6), (28, 7), (29, 8), (30, 9), (31, 10), (32, 11)] [[], [0], [], [2], [], [4], [5], [6], [7], [1, 3, 8], [9], [], [0, 1, 2, 3, 4, 5, 6, 7, 8, 9, 10, 11]] (rel [is (.pointer (some ⟨(s2 8), 0, none⟩)), iI (1000 * p0 - hi), is (.pointer (some ⟨(s2 9), 0, none⟩)), iI (1000 * p0 - lo), is (.pointer (some ⟨(s1 0), 12, none⟩)), is (.pointer (some ⟨(s1 0), 12, none⟩)), is (.int .u8 v0), iI v0, iI (v0 % 4), is (.agg #[.int .i64 ((aroundS (1000 * p0 - hi) (1000 * p0 - lo) (v0 % 4)).1), .int .i64 ((aroundS (1000 * p0 - hi) (1000 * p0 - lo) (v0 % 4)).2)]), is (.agg #[.int .i64 ((limS (aroundS (1000 * p0 - hi) (1000 * p0 - lo) (v0 % 4)) (0) (3000)).1), .int .i64 ((limS (aroundS (1000 * p0 - hi) (1000 * p0 - lo) (v0 % 4)) (0) (3000)).2)]), is (.pointer (some ⟨(s5 3), 0, none⟩))])
  ⟨fun f s W c d i j k a => opv rfl rfl (by simp [go_sem, a.e 7 k5_7]) rfl,
  fun f s W c d i j k a => opv rfl rfl (by simp [go_sem, a.e 21 (d 0 rfl), cl (bwb b6_4 c) 0]) rfl,
  fun f s W c d i j k a => opv rfl rfl (by simp [go_sem, a.e 8 k5_8]) rfl,
  fun f s W c d i j k a => opv rfl rfl (by simp [go_sem, a.e 23 (d 2 rfl), cl (bwb b6_5 c) 0]) rfl,
  fun f s W c d i j k a => opv rfl rfl (by simp [go_sem, a.e 3 k5_3]) rfl,
  fun f s W c d i j k a => opv rfl rfl (by simp [go_sem, a.e 25 (d 4 rfl)]) rfl,
  fun f s W c d i j k a => opv rfl rfl (by simp [go_sem, a.e 26 (d 5 rfl), cl (bwb b6_0 c) 12]) rfl,
  fun f s W c d i j k a => by have cv_ := IntWalk.i64_in v0 (by omega); exact opv rfl rfl (by simp [go_sem, a.e 27 (d 6 rfl), cv_]) rfl,
  fun f s W c d i j k a => by have qu_ : (v0).tmod 4 = v0 % 4 := Int.tmod_eq_emod_of_nonneg (by omega); have qw_ := IntWalk.i64_in (v0 % 4) (by omega); exact opv rfl rfl (by simp [go_sem, a.e 28 (d 7 rfl), qu_, qw_]) rfl,
  fun f s W c d i j k a => opc rfl rfl (by simp [go_sem, a.e 22 (d 1 rfl), a.e 24 (d 3 rfl), a.e 29 (d 8 rfl)]) (aroundS_any (1000 * p0 - hi) (1000 * p0 - lo) (v0 % 4) W (by omega) (by omega) (by omega) (by omega) (by omega) (by omega)),
  fun f s W c d i j k a => opc rfl rfl (by simp [go_sem, a.e 30 (d 9 rfl)]) (limS_any (aroundS (1000 * p0 - hi) (1000 * p0 - lo) (v0 % 4)).1 (aroundS (1000 * p0 - hi) (1000 * p0 - lo) (v0 % 4)).2 (0) (3000) W),
  fun f s W c d i j k a => opv rfl rfl (by simp [go_sem, a.e 9 k5_9]) rfl, trivial⟩ ?_
 intro f7 s7 W7 hB7 g7 hg7 z7
 have fB7 := hB7.f fB6
 have b7_0 := hB7.b b6_0
 have b7_3 := hB7.b b6_3
 have b7_4 := hB7.b b6_4
 have b7_5 := hB7.b b6_5
 have b7_6 := hB7.b nb6
 have k7_3 := kt hg7 3 k5_3
 have k7_7 := kt hg7 7 k5_7
 have k7_8 := kt hg7 8 k5_8
 have k7_9 := kt hg7 9 k5_9
 have k7_31 := kt hg7 31 (hB7.is 10)
 have k7_32 := kt hg7 32 (hB7.is 11)
 obtain ⟨W8, hW8⟩ : ∃ W', W' = W7.setRow (s5 3) #[.int .i64 ((limS (aroundS (1000 * p0 - hi) (1000 * p0 - lo) (v0 % 4)) (0) (3000)).1), .int .i64 ((limS (aroundS (1000 * p0 - hi) (1000 * p0 - lo) (v0 % 4)) (0) (3000)).2), .int .i64 0, .int .i64 0, .int .i64 0, .int .i64 0, .int .i64 0, .int .i64 0, .int .i64 0, .int .i64 0, .bool op] := ⟨_, rfl⟩
 refine tsk (o := _) rfl ⟨rfl, rfl⟩ (run_seg hW8 (fr_ev k7_32) (fr_ev k7_31) b7_6 rfl rfl rfl rfl) ?_
 obtain ⟨fB8, nb8, ot8, z8⟩ := sgf hW8 fB7 b7_6 (by omega)
 clear hW8
 have b8_0 := ot8 _ _ (by omega) b7_0
 have b8_3 := ot8 _ _ (by omega) b7_3
 have b8_4 := ot8 _ _ (by omega) b7_4
 have b8_5 := ot8 _ _ (by omega) b7_5
 refine wpe ?_
 refine hK4 _ _ ?_
 refine wp_seq_k fun K5 hK5 => ?_
 refine ry 12 [(33, 0), (34, 1), (35, 2), (36, 3), (37, 4), (38, 5), (39, 6), (40, 7), (41, 8), (42, 9), (43, 10), (44, 11)] [[], [0], [], [2], [], [4], [5], [6], [7], [1, 3, 8], [9], [], [0, 1, 2, 3, 4, 5, 6, 7, 8, 9, 10, 11]] (rel [is (.pointer (some ⟨(s2 8), 1, none⟩)), iI (1000 * p1 - hi), is (.pointer (some ⟨(s2 9), 1, none⟩)), iI (1000 * p1 - lo), is (.pointer (some ⟨(s1 0), 12, none⟩)), is (.pointer (some ⟨(s1 0), 13, none⟩)), is (.int .u8 v1), iI v1, iI (v1 % 4), is (.agg #[.int .i64 ((aroundS (1000 * p1 - hi) (1000 * p1 - lo) (v1 % 4)).1), .int .i64 ((aroundS (1000 * p1 - hi) (1000 * p1 - lo) (v1 % 4)).2)]), is (.agg #[.int .i64 ((limS (aroundS (1000 * p1 - hi) (1000 * p1 - lo) (v1 % 4)) (0) (3000)).1), .int .i64 ((limS (aroundS (1000 * p1 - hi) (1000 * p1 - lo) (v1 % 4)) (0) (3000)).2)]), is (.pointer (some ⟨(s5 3), 2, none⟩))])
  ⟨fun f s W c d i j k a => opv rfl rfl (by simp [go_sem, a.e 7 k7_7]) rfl,
  fun f s W c d i j k a => opv rfl rfl (by simp [go_sem, a.e 33 (d 0 rfl), cl (bwb b8_4 c) 1]) rfl,
  fun f s W c d i j k a => opv rfl rfl (by simp [go_sem, a.e 8 k7_8]) rfl,
  fun f s W c d i j k a => opv rfl rfl (by simp [go_sem, a.e 35 (d 2 rfl), cl (bwb b8_5 c) 1]) rfl,
  fun f s W c d i j k a => opv rfl rfl (by simp [go_sem, a.e 3 k7_3]) rfl,
  fun f s W c d i j k a => opv rfl rfl (by simp [go_sem, a.e 37 (d 4 rfl)]) rfl,
  fun f s W c d i j k a => opv rfl rfl (by simp [go_sem, a.e 38 (d 5 rfl), cl (bwb b8_0 c) 13]) rfl,
  fun f s W c d i j k a => by have cv_ := IntWalk.i64_in v1 (by omega); exact opv rfl rfl (by simp [go_sem, a.e 39 (d 6 rfl), cv_]) rfl,
  fun f s W c d i j k a => by have qu_ : (v1).tmod 4 = v1 % 4 := Int.tmod_eq_emod_of_nonneg (by omega); have qw_ := IntWalk.i64_in (v1 % 4) (by omega); exact opv rfl rfl (by simp [go_sem, a.e 40 (d 7 rfl), qu_, qw_]) rfl,
  fun f s W c d i j k a => opc rfl rfl (by simp [go_sem, a.e 34 (d 1 rfl), a.e 36 (d 3 rfl), a.e 41 (d 8 rfl)]) (aroundS_any (1000 * p1 - hi) (1000 * p1 - lo) (v1 % 4) W (by omega) (by omega) (by omega) (by omega) (by omega) (by omega)),
  fun f s W c d i j k a => opc rfl rfl (by simp [go_sem, a.e 42 (d 9 rfl)]) (limS_any (aroundS (1000 * p1 - hi) (1000 * p1 - lo) (v1 % 4)).1 (aroundS (1000 * p1 - hi) (1000 * p1 - lo) (v1 % 4)).2 (0) (3000) W),
  fun f s W c d i j k a => opv rfl rfl (by simp [go_sem, a.e 9 k7_9]) rfl, trivial⟩ ?_
 intro f9 s9 W9 hB9 g9 hg9 z9
 have fB9 := hB9.f fB8
 have b9_0 := hB9.b b8_0
 have b9_3 := hB9.b b8_3
 have b9_4 := hB9.b b8_4
 have b9_5 := hB9.b b8_5
 have b9_6 := hB9.b nb8
 have k9_3 := kt hg9 3 k7_3
 have k9_7 := kt hg9 7 k7_7
 have k9_8 := kt hg9 8 k7_8
 have k9_9 := kt hg9 9 k7_9
 have k9_43 := kt hg9 43 (hB9.is 10)
 have k9_44 := kt hg9 44 (hB9.is 11)
 obtain ⟨W10, hW10⟩ : ∃ W', W' = W9.setRow (s5 3) #[.int .i64 ((limS (aroundS (1000 * p0 - hi) (1000 * p0 - lo) (v0 % 4)) (0) (3000)).1), .int .i64 ((limS (aroundS (1000 * p0 - hi) (1000 * p0 - lo) (v0 % 4)) (0) (3000)).2), .int .i64 ((limS (aroundS (1000 * p1 - hi) (1000 * p1 - lo) (v1 % 4)) (0) (3000)).1), .int .i64 ((limS (aroundS (1000 * p1 - hi) (1000 * p1 - lo) (v1 % 4)) (0) (3000)).2), .int .i64 0, .int .i64 0, .int .i64 0, .int .i64 0, .int .i64 0, .int .i64 0, .bool op] := ⟨_, rfl⟩
 refine tsk (o := _) rfl ⟨rfl, rfl⟩ (run_seg hW10 (fr_ev k9_44) (fr_ev k9_43) b9_6 rfl rfl rfl rfl) ?_
 obtain ⟨fB10, nb10, ot10, z10⟩ := sgf hW10 fB9 b9_6 (by omega)
 clear hW10
 have b10_0 := ot10 _ _ (by omega) b9_0
 have b10_3 := ot10 _ _ (by omega) b9_3
 have b10_4 := ot10 _ _ (by omega) b9_4
 have b10_5 := ot10 _ _ (by omega) b9_5
 refine wpe ?_
 refine hK5 _ _ ?_
 refine wp_seq_k fun K6 hK6 => ?_
 refine ry 12 [(45, 0), (46, 1), (47, 2), (48, 3), (49, 4), (50, 5), (51, 6), (52, 7), (53, 8), (54, 9), (55, 10), (56, 11)] [[], [0], [], [2], [], [4], [5], [6], [7], [1, 3, 8], [9], [], [0, 1, 2, 3, 4, 5, 6, 7, 8, 9, 10, 11]] (rel [is (.pointer (some ⟨(s2 8), 4, none⟩)), iI m4hi, is (.pointer (some ⟨(s2 9), 4, none⟩)), iI m4lo, is (.pointer (some ⟨(s1 0), 12, none⟩)), is (.pointer (some ⟨(s1 0), 14, none⟩)), is (.int .u8 v2), iI v2, iI (v2 % 4), is (.agg #[.int .i64 ((aroundS (m4hi) (m4lo) (v2 % 4)).1), .int .i64 ((aroundS (m4hi) (m4lo) (v2 % 4)).2)]), is (.agg #[.int .i64 ((limS (aroundS (m4hi) (m4lo) (v2 % 4)) (0) (3000)).1), .int .i64 ((limS (aroundS (m4hi) (m4lo) (v2 % 4)) (0) (3000)).2)]), is (.pointer (some ⟨(s5 3), 4, none⟩))])
  ⟨fun f s W c d i j k a => opv rfl rfl (by simp [go_sem, a.e 7 k9_7]) rfl,
  fun f s W c d i j k a => opv rfl rfl (by simp [go_sem, a.e 45 (d 0 rfl), cl (bwb b10_4 c) 4]) rfl,
  fun f s W c d i j k a => opv rfl rfl (by simp [go_sem, a.e 8 k9_8]) rfl,
  fun f s W c d i j k a => opv rfl rfl (by simp [go_sem, a.e 47 (d 2 rfl), cl (bwb b10_5 c) 4]) rfl,
  fun f s W c d i j k a => opv rfl rfl (by simp [go_sem, a.e 3 k9_3]) rfl,
  fun f s W c d i j k a => opv rfl rfl (by simp [go_sem, a.e 49 (d 4 rfl)]) rfl,
  fun f s W c d i j k a => opv rfl rfl (by simp [go_sem, a.e 50 (d 5 rfl), cl (bwb b10_0 c) 14]) rfl,
  fun f s W c d i j k a => by have cv_ := IntWalk.i64_in v2 (by omega); exact opv rfl rfl (by simp [go_sem, a.e 51 (d 6 rfl), cv_]) rfl,
  fun f s W c d i j k a => by have qu_ : (v2).tmod 4 = v2 % 4 := Int.tmod_eq_emod_of_nonneg (by omega); have qw_ := IntWalk.i64_in (v2 % 4) (by omega); exact opv rfl rfl (by simp [go_sem, a.e 52 (d 7 rfl), qu_, qw_]) rfl,
  fun f s W c d i j k a => opc rfl rfl (by simp [go_sem, a.e 46 (d 1 rfl), a.e 48 (d 3 rfl), a.e 53 (d 8 rfl)]) (aroundS_any (m4hi) (m4lo) (v2 % 4) W (by omega) (by omega) (by omega) (by omega) (by omega) (by omega)),
  fun f s W c d i j k a => opc rfl rfl (by simp [go_sem, a.e 54 (d 9 rfl)]) (limS_any (aroundS (m4hi) (m4lo) (v2 % 4)).1 (aroundS (m4hi) (m4lo) (v2 % 4)).2 (0) (3000) W),
  fun f s W c d i j k a => opv rfl rfl (by simp [go_sem, a.e 9 k9_9]) rfl, trivial⟩ ?_
 intro f11 s11 W11 hB11 g11 hg11 z11
 have fB11 := hB11.f fB10
 have b11_0 := hB11.b b10_0
 have b11_3 := hB11.b b10_3
 have b11_4 := hB11.b b10_4
 have b11_5 := hB11.b b10_5
 have b11_6 := hB11.b nb10
 have k11_3 := kt hg11 3 k9_3
 have k11_7 := kt hg11 7 k9_7
 have k11_8 := kt hg11 8 k9_8
 have k11_9 := kt hg11 9 k9_9
 have k11_55 := kt hg11 55 (hB11.is 10)
 have k11_56 := kt hg11 56 (hB11.is 11)
 obtain ⟨W12, hW12⟩ : ∃ W', W' = W11.setRow (s5 3) #[.int .i64 ((limS (aroundS (1000 * p0 - hi) (1000 * p0 - lo) (v0 % 4)) (0) (3000)).1), .int .i64 ((limS (aroundS (1000 * p0 - hi) (1000 * p0 - lo) (v0 % 4)) (0) (3000)).2), .int .i64 ((limS (aroundS (1000 * p1 - hi) (1000 * p1 - lo) (v1 % 4)) (0) (3000)).1), .int .i64 ((limS (aroundS (1000 * p1 - hi) (1000 * p1 - lo) (v1 % 4)) (0) (3000)).2), .int .i64 ((limS (aroundS (m4hi) (m4lo) (v2 % 4)) (0) (3000)).1), .int .i64 ((limS (aroundS (m4hi) (m4lo) (v2 % 4)) (0) (3000)).2), .int .i64 0, .int .i64 0, .int .i64 0, .int .i64 0, .bool op] := ⟨_, rfl⟩
 refine tsk (o := _) rfl ⟨rfl, rfl⟩ (run_seg hW12 (fr_ev k11_56) (fr_ev k11_55) b11_6 rfl rfl rfl rfl) ?_
 obtain ⟨fB12, nb12, ot12, z12⟩ := sgf hW12 fB11 b11_6 (by omega)
 clear hW12
 have b12_0 := ot12 _ _ (by omega) b11_0
 have b12_3 := ot12 _ _ (by omega) b11_3
 have b12_4 := ot12 _ _ (by omega) b11_4
 have b12_5 := ot12 _ _ (by omega) b11_5
 refine wpe ?_
 refine hK6 _ _ ?_
 refine wp_seq_k fun K7 hK7 => ?_
 refine ry 12 [(57, 0), (58, 1), (59, 2), (60, 3), (61, 4), (62, 5), (63, 6), (64, 7), (65, 8), (66, 9), (67, 10), (68, 11)] [[], [0], [], [2], [], [4], [5], [6], [7], [1, 3, 8], [9], [], [0, 1, 2, 3, 4, 5, 6, 7, 8, 9, 10, 11]] (rel [is (.pointer (some ⟨(s2 8), 7, none⟩)), iI ((1000 * p1 - hi) - 2000 * u0), is (.pointer (some ⟨(s2 9), 7, none⟩)), iI ((1000 * p1 - lo) - 2000 * u0), is (.pointer (some ⟨(s1 0), 12, none⟩)), is (.pointer (some ⟨(s1 0), 15, none⟩)), is (.int .u8 v3), iI v3, iI (v3 % 6), is (.agg #[.int .i64 ((aroundS ((1000 * p1 - hi) - 2000 * u0) ((1000 * p1 - lo) - 2000 * u0) (v3 % 6)).1), .int .i64 ((aroundS ((1000 * p1 - hi) - 2000 * u0) ((1000 * p1 - lo) - 2000 * u0) (v3 % 6)).2)]), is (.agg #[.int .i64 ((limS (aroundS ((1000 * p1 - hi) - 2000 * u0) ((1000 * p1 - lo) - 2000 * u0) (v3 % 6)) (-3000) (3000)).1), .int .i64 ((limS (aroundS ((1000 * p1 - hi) - 2000 * u0) ((1000 * p1 - lo) - 2000 * u0) (v3 % 6)) (-3000) (3000)).2)]), is (.pointer (some ⟨(s5 3), 6, none⟩))])
  ⟨fun f s W c d i j k a => opv rfl rfl (by simp [go_sem, a.e 7 k11_7]) rfl,
  fun f s W c d i j k a => opv rfl rfl (by simp [go_sem, a.e 57 (d 0 rfl), cl (bwb b12_4 c) 7]) rfl,
  fun f s W c d i j k a => opv rfl rfl (by simp [go_sem, a.e 8 k11_8]) rfl,
  fun f s W c d i j k a => opv rfl rfl (by simp [go_sem, a.e 59 (d 2 rfl), cl (bwb b12_5 c) 7]) rfl,
  fun f s W c d i j k a => opv rfl rfl (by simp [go_sem, a.e 3 k11_3]) rfl,
  fun f s W c d i j k a => opv rfl rfl (by simp [go_sem, a.e 61 (d 4 rfl)]) rfl,
  fun f s W c d i j k a => opv rfl rfl (by simp [go_sem, a.e 62 (d 5 rfl), cl (bwb b12_0 c) 15]) rfl,
  fun f s W c d i j k a => by have cv_ := IntWalk.i64_in v3 (by omega); exact opv rfl rfl (by simp [go_sem, a.e 63 (d 6 rfl), cv_]) rfl,
  fun f s W c d i j k a => by have qu_ : (v3).tmod 6 = v3 % 6 := Int.tmod_eq_emod_of_nonneg (by omega); have qw_ := IntWalk.i64_in (v3 % 6) (by omega); exact opv rfl rfl (by simp [go_sem, a.e 64 (d 7 rfl), qu_, qw_]) rfl,
  fun f s W c d i j k a => opc rfl rfl (by simp [go_sem, a.e 58 (d 1 rfl), a.e 60 (d 3 rfl), a.e 65 (d 8 rfl)]) (aroundS_any ((1000 * p1 - hi) - 2000 * u0) ((1000 * p1 - lo) - 2000 * u0) (v3 % 6) W (by omega) (by omega) (by omega) (by omega) (by omega) (by omega)),
  fun f s W c d i j k a => opc rfl rfl (by simp [go_sem, a.e 66 (d 9 rfl)]) (limS_any (aroundS ((1000 * p1 - hi) - 2000 * u0) ((1000 * p1 - lo) - 2000 * u0) (v3 % 6)).1 (aroundS ((1000 * p1 - hi) - 2000 * u0) ((1000 * p1 - lo) - 2000 * u0) (v3 % 6)).2 (-3000) (3000) W),
  fun f s W c d i j k a => opv rfl rfl (by simp [go_sem, a.e 9 k11_9]) rfl, trivial⟩ ?_
 intro f13 s13 W13 hB13 g13 hg13 z13
 have fB13 := hB13.f fB12
 have b13_0 := hB13.b b12_0
 have b13_3 := hB13.b b12_3
 have b13_4 := hB13.b b12_4
 have b13_5 := hB13.b b12_5
 have b13_6 := hB13.b nb12
 have k13_3 := kt hg13 3 k11_3
 have k13_7 := kt hg13 7 k11_7
 have k13_8 := kt hg13 8 k11_8
 have k13_9 := kt hg13 9 k11_9
 have k13_67 := kt hg13 67 (hB13.is 10)
 have k13_68 := kt hg13 68 (hB13.is 11)
 obtain ⟨W14, hW14⟩ : ∃ W', W' = W13.setRow (s5 3) #[.int .i64 ((limS (aroundS (1000 * p0 - hi) (1000 * p0 - lo) (v0 % 4)) (0) (3000)).1), .int .i64 ((limS (aroundS (1000 * p0 - hi) (1000 * p0 - lo) (v0 % 4)) (0) (3000)).2), .int .i64 ((limS (aroundS (1000 * p1 - hi) (1000 * p1 - lo) (v1 % 4)) (0) (3000)).1), .int .i64 ((limS (aroundS (1000 * p1 - hi) (1000 * p1 - lo) (v1 % 4)) (0) (3000)).2), .int .i64 ((limS (aroundS (m4hi) (m4lo) (v2 % 4)) (0) (3000)).1), .int .i64 ((limS (aroundS (m4hi) (m4lo) (v2 % 4)) (0) (3000)).2), .int .i64 ((limS (aroundS ((1000 * p1 - hi) - 2000 * u0) ((1000 * p1 - lo) - 2000 * u0) (v3 % 6)) (-3000) (3000)).1), .int .i64 ((limS (aroundS ((1000 * p1 - hi) - 2000 * u0) ((1000 * p1 - lo) - 2000 * u0) (v3 % 6)) (-3000) (3000)).2), .int .i64 0, .int .i64 0, .bool op] := ⟨_, rfl⟩
 refine tsk (o := _) rfl ⟨rfl, rfl⟩ (run_seg hW14 (fr_ev k13_68) (fr_ev k13_67) b13_6 rfl rfl rfl rfl) ?_
 obtain ⟨fB14, nb14, ot14, z14⟩ := sgf hW14 fB13 b13_6 (by omega)
 clear hW14
 have b14_0 := ot14 _ _ (by omega) b13_0
 have b14_3 := ot14 _ _ (by omega) b13_3
 have b14_4 := ot14 _ _ (by omega) b13_4
 have b14_5 := ot14 _ _ (by omega) b13_5
 refine wpe ?_
 refine hK7 _ _ ?_
 refine wp_seq_k fun K8 hK8 => ?_
 refine ry 12 [(69, 0), (70, 1), (71, 2), (72, 3), (73, 4), (74, 5), (75, 6), (76, 7), (77, 8), (78, 9), (79, 10), (80, 11)] [[], [0], [], [2], [], [4], [5], [6], [7], [1, 3, 8], [9], [], [0, 1, 2, 3, 4, 5, 6, 7, 8, 9, 10, 11]] (rel [is (.pointer (some ⟨(s2 8), 8, none⟩)), iI ((1000 * p0 - hi) - 2000 * u1), is (.pointer (some ⟨(s2 9), 8, none⟩)), iI ((1000 * p0 - lo) - 2000 * u1), is (.pointer (some ⟨(s1 0), 12, none⟩)), is (.pointer (some ⟨(s1 0), 16, none⟩)), is (.int .u8 v4), iI v4, iI (v4 % 6), is (.agg #[.int .i64 ((aroundS ((1000 * p0 - hi) - 2000 * u1) ((1000 * p0 - lo) - 2000 * u1) (v4 % 6)).1), .int .i64 ((aroundS ((1000 * p0 - hi) - 2000 * u1) ((1000 * p0 - lo) - 2000 * u1) (v4 % 6)).2)]), is (.agg #[.int .i64 ((limS (aroundS ((1000 * p0 - hi) - 2000 * u1) ((1000 * p0 - lo) - 2000 * u1) (v4 % 6)) (-3000) (3000)).1), .int .i64 ((limS (aroundS ((1000 * p0 - hi) - 2000 * u1) ((1000 * p0 - lo) - 2000 * u1) (v4 % 6)) (-3000) (3000)).2)]), is (.pointer (some ⟨(s5 3), 8, none⟩))])
  ⟨fun f s W c d i j k a => opv rfl rfl (by simp [go_sem, a.e 7 k13_7]) rfl,
  fun f s W c d i j k a => opv rfl rfl (by simp [go_sem, a.e 69 (d 0 rfl), cl (bwb b14_4 c) 8]) rfl,
  fun f s W c d i j k a => opv rfl rfl (by simp [go_sem, a.e 8 k13_8]) rfl,
  fun f s W c d i j k a => opv rfl rfl (by simp [go_sem, a.e 71 (d 2 rfl), cl (bwb b14_5 c) 8]) rfl,
  fun f s W c d i j k a => opv rfl rfl (by simp [go_sem, a.e 3 k13_3]) rfl,
  fun f s W c d i j k a => opv rfl rfl (by simp [go_sem, a.e 73 (d 4 rfl)]) rfl,
  fun f s W c d i j k a => opv rfl rfl (by simp [go_sem, a.e 74 (d 5 rfl), cl (bwb b14_0 c) 16]) rfl,
  fun f s W c d i j k a => by have cv_ := IntWalk.i64_in v4 (by omega); exact opv rfl rfl (by simp [go_sem, a.e 75 (d 6 rfl), cv_]) rfl,
  fun f s W c d i j k a => by have qu_ : (v4).tmod 6 = v4 % 6 := Int.tmod_eq_emod_of_nonneg (by omega); have qw_ := IntWalk.i64_in (v4 % 6) (by omega); exact opv rfl rfl (by simp [go_sem, a.e 76 (d 7 rfl), qu_, qw_]) rfl,
  fun f s W c d i j k a => opc rfl rfl (by simp [go_sem, a.e 70 (d 1 rfl), a.e 72 (d 3 rfl), a.e 77 (d 8 rfl)]) (aroundS_any ((1000 * p0 - hi) - 2000 * u1) ((1000 * p0 - lo) - 2000 * u1) (v4 % 6) W (by omega) (by omega) (by omega) (by omega) (by omega) (by omega)),
  fun f s W c d i j k a => opc rfl rfl (by simp [go_sem, a.e 78 (d 9 rfl)]) (limS_any (aroundS ((1000 * p0 - hi) - 2000 * u1) ((1000 * p0 - lo) - 2000 * u1) (v4 % 6)).1 (aroundS ((1000 * p0 - hi) - 2000 * u1) ((1000 * p0 - lo) - 2000 * u1) (v4 % 6)).2 (-3000) (3000) W),
  fun f s W c d i j k a => opv rfl rfl (by simp [go_sem, a.e 9 k13_9]) rfl, trivial⟩ ?_
 intro f15 s15 W15 hB15 g15 hg15 z15
 have fB15 := hB15.f fB14
 have b15_3 := hB15.b b14_3
 have b15_6 := hB15.b nb14
 have k15_9 := kt hg15 9 k13_9
 have k15_79 := kt hg15 79 (hB15.is 10)
 have k15_80 := kt hg15 80 (hB15.is 11)
 obtain ⟨W16, hW16⟩ : ∃ W', W' = W15.setRow (s5 3) #[.int .i64 ((limS (aroundS (1000 * p0 - hi) (1000 * p0 - lo) (v0 % 4)) (0) (3000)).1), .int .i64 ((limS (aroundS (1000 * p0 - hi) (1000 * p0 - lo) (v0 % 4)) (0) (3000)).2), .int .i64 ((limS (aroundS (1000 * p1 - hi) (1000 * p1 - lo) (v1 % 4)) (0) (3000)).1), .int .i64 ((limS (aroundS (1000 * p1 - hi) (1000 * p1 - lo) (v1 % 4)) (0) (3000)).2), .int .i64 ((limS (aroundS (m4hi) (m4lo) (v2 % 4)) (0) (3000)).1), .int .i64 ((limS (aroundS (m4hi) (m4lo) (v2 % 4)) (0) (3000)).2), .int .i64 ((limS (aroundS ((1000 * p1 - hi) - 2000 * u0) ((1000 * p1 - lo) - 2000 * u0) (v3 % 6)) (-3000) (3000)).1), .int .i64 ((limS (aroundS ((1000 * p1 - hi) - 2000 * u0) ((1000 * p1 - lo) - 2000 * u0) (v3 % 6)) (-3000) (3000)).2), .int .i64 ((limS (aroundS ((1000 * p0 - hi) - 2000 * u1) ((1000 * p0 - lo) - 2000 * u1) (v4 % 6)) (-3000) (3000)).1), .int .i64 ((limS (aroundS ((1000 * p0 - hi) - 2000 * u1) ((1000 * p0 - lo) - 2000 * u1) (v4 % 6)) (-3000) (3000)).2), .bool op] := ⟨_, rfl⟩
 refine tsk (o := _) rfl ⟨rfl, rfl⟩ (run_seg hW16 (fr_ev k15_80) (fr_ev k15_79) b15_6 rfl rfl rfl rfl) ?_
 obtain ⟨fB16, nb16, ot16, z16⟩ := sgf hW16 fB15 b15_6 (by omega)
 clear hW16
 have b16_3 := ot16 _ _ (by omega) b15_3
 refine wpe ?_
 refine hK8 _ _ ?_
 refine wp_seq_k fun K9 hK9 => ?_
 refine ry 1 [(81, 0)] [[], [0]] (rel [is (.agg #[.int .i64 ((limS (aroundS (1000 * p0 - hi) (1000 * p0 - lo) (v0 % 4)) (0) (3000)).1), .int .i64 ((limS (aroundS (1000 * p0 - hi) (1000 * p0 - lo) (v0 % 4)) (0) (3000)).2), .int .i64 ((limS (aroundS (1000 * p1 - hi) (1000 * p1 - lo) (v1 % 4)) (0) (3000)).1), .int .i64 ((limS (aroundS (1000 * p1 - hi) (1000 * p1 - lo) (v1 % 4)) (0) (3000)).2), .int .i64 ((limS (aroundS (m4hi) (m4lo) (v2 % 4)) (0) (3000)).1), .int .i64 ((limS (aroundS (m4hi) (m4lo) (v2 % 4)) (0) (3000)).2), .int .i64 ((limS (aroundS ((1000 * p1 - hi) - 2000 * u0) ((1000 * p1 - lo) - 2000 * u0) (v3 % 6)) (-3000) (3000)).1), .int .i64 ((limS (aroundS ((1000 * p1 - hi) - 2000 * u0) ((1000 * p1 - lo) - 2000 * u0) (v3 % 6)) (-3000) (3000)).2), .int .i64 ((limS (aroundS ((1000 * p0 - hi) - 2000 * u1) ((1000 * p0 - lo) - 2000 * u1) (v4 % 6)) (-3000) (3000)).1), .int .i64 ((limS (aroundS ((1000 * p0 - hi) - 2000 * u1) ((1000 * p0 - lo) - 2000 * u1) (v4 % 6)) (-3000) (3000)).2), .bool op])])
  ⟨fun f s W c d i j k a => opv rfl rfl (by simp [go_sem, a.e 9 k15_9, cl (bwb nb16 c) 0, cl (bwb nb16 c) 1, cl (bwb nb16 c) 2, cl (bwb nb16 c) 3, cl (bwb nb16 c) 4, cl (bwb nb16 c) 5, cl (bwb nb16 c) 6, cl (bwb nb16 c) 7, cl (bwb nb16 c) 8, cl (bwb nb16 c) 9, cl (bwb nb16 c) 10]) rfl, trivial⟩ ?_
 intro f17 s17 W17 hB17 g17 hg17 z17
 have fB17 := hB17.f fB16
 have b17_3 := hB17.b b16_3
 have k17_6 := kt hg17 6 (kt hg15 6 (kt hg13 6 (kt hg11 6 (kt hg9 6 (kt hg7 6 (kt hg5 6 (kt hg2 6 (kt hg1 6 r1_3))))))))
 have k17_81 := kt hg17 81 (hB17.is 0)
 obtain ⟨W18, hW18⟩ : ∃ W', W' = W17.setRow (s1 3) #[.int .i64 ((limS (aroundS (1000 * p0 - hi) (1000 * p0 - lo) (v0 % 4)) (0) (3000)).1), .int .i64 ((limS (aroundS (1000 * p0 - hi) (1000 * p0 - lo) (v0 % 4)) (0) (3000)).2), .int .i64 ((limS (aroundS (1000 * p1 - hi) (1000 * p1 - lo) (v1 % 4)) (0) (3000)).1), .int .i64 ((limS (aroundS (1000 * p1 - hi) (1000 * p1 - lo) (v1 % 4)) (0) (3000)).2), .int .i64 ((limS (aroundS (m4hi) (m4lo) (v2 % 4)) (0) (3000)).1), .int .i64 ((limS (aroundS (m4hi) (m4lo) (v2 % 4)) (0) (3000)).2), .int .i64 ((limS (aroundS ((1000 * p1 - hi) - 2000 * u0) ((1000 * p1 - lo) - 2000 * u0) (v3 % 6)) (-3000) (3000)).1), .int .i64 ((limS (aroundS ((1000 * p1 - hi) - 2000 * u0) ((1000 * p1 - lo) - 2000 * u0) (v3 % 6)) (-3000) (3000)).2), .int .i64 ((limS (aroundS ((1000 * p0 - hi) - 2000 * u1) ((1000 * p0 - lo) - 2000 * u1) (v4 % 6)) (-3000) (3000)).1), .int .i64 ((limS (aroundS ((1000 * p0 - hi) - 2000 * u1) ((1000 * p0 - lo) - 2000 * u1) (v4 % 6)) (-3000) (3000)).2), .bool op] := ⟨_, rfl⟩
 refine tsk (o := _) rfl ⟨rfl, rfl⟩ (run_seg hW18 (fr_ev k17_6) (fr_ev k17_81) b17_3 rfl rfl rfl rfl) ?_
 obtain ⟨fB18, nb18, ot18, z18⟩ := sgf hW18 fB17 b17_3 (by omega)
 clear hW18
 refine wpe ?_
 refine hK9 _ _ ?_
 refine wp_ret ?_
 refine leave_gen (v := .agg #[.int .i64 ((limS (aroundS (1000 * p0 - hi) (1000 * p0 - lo) (v0 % 4)) (0) (3000)).1), .int .i64 ((limS (aroundS (1000 * p0 - hi) (1000 * p0 - lo) (v0 % 4)) (0) (3000)).2), .int .i64 ((limS (aroundS (1000 * p1 - hi) (1000 * p1 - lo) (v1 % 4)) (0) (3000)).1), .int .i64 ((limS (aroundS (1000 * p1 - hi) (1000 * p1 - lo) (v1 % 4)) (0) (3000)).2), .int .i64 ((limS (aroundS (m4hi) (m4lo) (v2 % 4)) (0) (3000)).1), .int .i64 ((limS (aroundS (m4hi) (m4lo) (v2 % 4)) (0) (3000)).2), .int .i64 ((limS (aroundS ((1000 * p1 - hi) - 2000 * u0) ((1000 * p1 - lo) - 2000 * u0) (v3 % 6)) (-3000) (3000)).1), .int .i64 ((limS (aroundS ((1000 * p1 - hi) - 2000 * u0) ((1000 * p1 - lo) - 2000 * u0) (v3 % 6)) (-3000) (3000)).2), .int .i64 ((limS (aroundS ((1000 * p0 - hi) - 2000 * u1) ((1000 * p0 - lo) - 2000 * u1) (v4 % 6)) (-3000) (3000)).1), .int .i64 ((limS (aroundS ((1000 * p0 - hi) - 2000 * u1) ((1000 * p0 - lo) - 2000 * u1) (v4 % 6)) (-3000) (3000)).2), .bool op]) (.inr rfl) (by simp [results, Tryz.results36, go_sem, frv 82 k17_6, cl nb18 0, cl nb18 1, cl nb18 2, cl nb18 3, cl nb18 4, cl nb18 5, cl nb18 6, cl nb18 7, cl nb18 8, cl nb18 9, cl nb18 10]) ?_
 subst hm4hi hm4lo
 exact ⟨rfl, fB18⟩
end Go.Proofs.YthnediamopehfaaGreat
