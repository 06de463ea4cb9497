/- Part of the proof: what the claim leans on. -/
import Derived.Test.YtcgccflcjejlhaaVBP
set_option maxHeartbeats 8000000
set_option maxRecDepth 100000
set_option linter.unusedSimpArgs false
set_option linter.unusedVariables false
namespace Go.Proofs.Ytcgccflcjejlhaa
open Go.RowKit
def IsLb (v : Value) (W : World) : Prop := ∃ b o c, v = .slice (some ⟨b, o, none⟩) 2 c ∧ SpR W b o 2 rxL
theorem IsLb.below {v : Value} {W W' : World} (h : IsLb v W) (hb : Below W.heap.size W W') : IsLb v W' := by
  obtain ⟨b, o, c, e, h⟩ := h; exact ⟨b, o, c, e, h.below hb⟩
theorem armRoll_yes (w : World) :
  Calls Try.prog 14 #[] w (fun e w' => e = .returned (.bool true) ∧ Below w.heap.size w w') := by
 refine calls_fr Try.func14 Try.ntmps14 rfl rfl fun g hg => ?_
 clear hg
 have fB0 : Below w.heap.size w w := Below.refl _ _
 refine rw_ 1 [(0, 0)] [[]] (rel [iB false])
  ⟨fun f s W i j l m n a => opz, trivial⟩ ?_
 intro f1 s1 W1 hB1 g1 hg1 z1
 refine wp_seq_k fun K2 hK2 => ?_
 refine rz 6 [(6, 0), (7, 1), (8, 2), (9, 3), (10, 4), (1, 5)] [[], [], [], [1, 2], [0, 1, 2, 3], [], [0, 1, 2, 3, 4, 5]] (rel [is (.agg #[.int .i64 3, .int .i64 2]), is (.agg #[.int .i64 3100, .int .i64 3160]), is (.agg #[.int .i64 6100, .int .i64 6100]), row 3 2 #[.int .i64 3100, .int .i64 3160, .int .i64 6100, .int .i64 6100] 43, isS fun s => .agg #[.int .i64 3, .int .i64 2, .int .i64 100, .slice (some ⟨(s 3), 0, none⟩) (2) (2)], bx 5 #[.int .i64 0, .int .i64 0, .int .i64 0, .slice none 0 0] 80])
  ⟨is_k, is_k, is_k, row_k, isS_k fun s s' e => by rw [e 3 (by simp)], bx_k, trivial⟩
  ⟨fun f s W i j l m n a => opv rfl rfl (by simp [go_sem]) rfl,
  fun f s W i j l m n a => opc rfl rfl (by simp [go_sem]) (arm_spanR (3100) (3160) W),
  fun f s W i j l m n a => opc rfl rfl (by simp [go_sem]) (arm_spanR (6100) (6100) W),
  fun f s W i j l m n a => opr rfl rfl (by simp [go_sem, a.e 7 (j 1 rfl), a.e 8 (j 2 rfl)]),
  fun f s W i j l m n a => opv rfl rfl (by simp [go_sem, a.e 6 (j 0 rfl), a.e 9 (j 3 rfl).1, upd]) rfl,
  fun f s W i j l m n a => opb rfl rfl (by simp [go_sem]), trivial⟩ ?_
 intro f2 s2 W2 hB2 g2 hg2 z2
 have fB2 := hB2.f (hB1.f fB0)
 obtain ⟨r2_3, br2_3⟩ := hB2.is 3
 have lr2_3 := hB2.lr 3 br2_3
 obtain ⟨r2_5, br2_5⟩ := hB2.is 5
 have lr2_5 := hB2.lr 5 br2_5
 have ne2_3_5 := hB2.nb 3 5
 have k2_10 := kt hg2 10 (hB2.is 4)
 have k2_1 := kt hg2 1 r2_5
 obtain ⟨W3, hW3⟩ : ∃ W', W' = W2.setRow (s2 5) #[.int .i64 3, .int .i64 2, .int .i64 100, .slice (some ⟨(s2 3), 0, none⟩) (2) (2)] := ⟨_, rfl⟩
 refine tsk (o := _) rfl ⟨rfl, rfl⟩ (run_seg hW3 (fr_ev k2_1) (fr_ev k2_10) br2_5 rfl rfl rfl rfl) ?_
 obtain ⟨fB3, nb3, ot3, z3⟩ := sgf hW3 fB2 br2_5 (by omega)
 clear hW3
 have b3_0 := ot3 _ _ (by omega) br2_3
 refine wpe ?_
 refine hK2 _ _ ?_
 refine wp_seq_k fun K3 hK3 => ?_
 refine ry 6 [(12, 0), (13, 1), (11, 2), (14, 3), (15, 4), (2, 5), (3, 7)] [[], [0], [1], [2], [2], [], [0, 1, 2, 3, 5], [0, 1, 2, 3, 4, 5, 6]] (rel [is (.agg #[.int .i64 3, .int .i64 2, .int .i64 100, .slice (some ⟨(s2 3), 0, none⟩) (2) (2)]), is (.tuple #[.agg #[.int .i64 6000, .int .i64 6040], .int .i64 0]), is (.tuple #[.agg #[.int .i64 6000, .int .i64 6040], .int .i64 0]), is (.agg #[.int .i64 6000, .int .i64 6040]), iI 0, bx 5 #[.int .i64 0, .int .i64 0] 43])
  ⟨fun f s W i j l m n a => opv rfl rfl (by simp [go_sem, a.e 1 k2_1, cb nb3 i 0, cb nb3 i 1, cb nb3 i 2, cb nb3 i 3]) rfl,
  fun f s W i j l m n a => opc rfl rfl (by simp [go_sem, a.e 12 (j 0 rfl)]) (lasts_ex (s2 3) W (bwb b3_0 i)),
  fun f s W i j l m n a => opm (a.v 13 (j 1 rfl)),
  fun f s W i j l m n a => opv rfl rfl (by simp [go_sem, a.e 11 (j 2 rfl)]) rfl,
  fun f s W i j l m n a => opv rfl rfl (by simp [go_sem, a.e 11 (j 2 rfl)]) rfl,
  fun f s W i j l m n a => opb rfl rfl (by simp [go_sem]), trivial⟩ ?_
 intro f4 s4 W4 hB4 g4 hg4 z4
 have fB4 := hB4.f fB3
 have b4_0 := hB4.b b3_0
 have b4_1 := hB4.b nb3
 obtain ⟨r4_5, br4_5⟩ := hB4.is 5
 have lr4_5 := hB4.lr 5 br4_5
 have k4_14 := kt hg4 14 (hB4.is 3)
 have k4_15 := kt hg4 15 (hB4.is 4)
 have k4_2 := kt hg4 2 r4_5
 obtain ⟨W5, hW5⟩ : ∃ W', W' = W4.setRow (s4 5) #[.int .i64 6000, .int .i64 6040] := ⟨_, rfl⟩
 refine tsk (o := _) rfl ⟨rfl, rfl⟩ (run_seg hW5 (fr_ev k4_2) (fr_ev k4_14) br4_5 rfl rfl rfl rfl) ?_
 obtain ⟨fB5, nb5, ot5, z5⟩ := sgf hW5 fB4 br4_5 (by omega)
 clear hW5
 have b5_0 := ot5 _ _ (by omega) b4_0
 have b5_1 := ot5 _ _ (by omega) b4_1
 refine tail_value (o := _) rfl rfl rfl (v := .int .i64 0) (by simp [go_sem, frv 47 k4_15]) ?_
 generalize hg6 : upd g4 3 (.int .i64 0) = g6
 have k6_1 := ku hg6 1 (kt hg4 1 k2_1)
 refine wpe ?_
 refine hK3 _ _ ?_
 refine rx 10 [(17, 0), (18, 1), (19, 2), (20, 3), (21, 4), (16, 5), (22, 6), (23, 7), (4, 8), (5, 9)] [[], [], [1], [1, 2], [0, 1, 2, 3], [0, 1, 2, 3, 4], [0, 1, 2, 3, 4, 5], [0, 1, 2, 3, 4, 5], [0, 1, 2, 3, 4, 5, 6], [0, 1, 2, 3, 4, 5, 6, 7, 8]] (rel [is (.agg #[.int .i64 3, .int .i64 2, .int .i64 100, .slice (some ⟨(s2 3), 0, none⟩) (2) (2)]),
   is (.agg #[.int .i64 2010, .int .i64 2012]),
   is (.agg #[.int .i64 0, .int .i64 2010, .int .i64 2012]),
   row 3 1 #[.int .i64 0, .int .i64 2010, .int .i64 2012] 122,
   ab fun v W => ∃ x0, v = .tuple #[x0, .int .i64 0] ∧ IsLb x0 W,
   ab fun v W => ∃ x0, v = .tuple #[x0, .int .i64 0] ∧ IsLb x0 W,
   ab fun v W => IsLb v W,
   is (.int .i64 0),
   ab fun v W => IsLb v W,
   is (.int .i64 0)])
  ⟨is_k, is_k, is_k, row_k, ab_k fun v W W' hb ⟨x0, e, h0⟩ => ⟨x0, e, (IsLb.below h0 hb)⟩, ab_k fun v W W' hb ⟨x0, e, h0⟩ => ⟨x0, e, (IsLb.below h0 hb)⟩, ab_k fun v W W' hb h => (IsLb.below h hb), is_k, ab_k fun v W W' hb h => (IsLb.below h hb), is_k, trivial⟩
  ⟨fun f s W i j l m n a => opv rfl rfl (by simp [go_sem, a.e 1 k6_1, cb b5_1 i 0, cb b5_1 i 1, cb b5_1 i 2, cb b5_1 i 3]) rfl,
  fun f s W i j l m n a => opc rfl rfl (by simp [go_sem]) (arm_spanR (2010) (2012) W),
  fun f s W i j l m n a => opv rfl rfl (by simp [go_sem, a.e 18 (j 1 rfl)]) rfl,
  fun f s W i j l m n a => opr rfl rfl (by simp [go_sem, a.e 19 (j 2 rfl)]),
  fun f s W i j l m n a => opd rfl rfl (by simp [go_sem, a.e 17 (j 0 rfl), a.e 20 (j 3 rfl).1]) (labels_ex (s2 3) (s 3) W (bwb b5_0 i) (j 3 rfl).2) ((fun e W' h => by obtain ⟨a_, c_, e1, h1, h2⟩ := h; obtain ⟨b_, o_, rfl, h3⟩ := h1.at (k := 0) (by decide); exact ⟨_, e1, h2, ⟨_, rfl, ⟨b_, o_, c_, rfl, h3⟩⟩⟩)),
  fun f s W i j l m n a => opv (v := (f 4)) rfl rfl (by simp [go_sem, (a.at' 21 rfl : n.tmps[21]?.getD undef = f 4)] <;> rfl) (j 4 rfl),
  fun f s W i j l m n a => by obtain ⟨x5_0, d5, p5_0⟩ := (j 5 rfl); exact opv (v := x5_0) rfl rfl (by simp [go_sem, a.e 16 d5]) p5_0,
  fun f s W i j l m n a => by obtain ⟨x5_0, d5, p5_0⟩ := (j 5 rfl); exact opv rfl rfl (by simp [go_sem, a.e 16 d5]) rfl,
  fun f s W i j l m n a => opv (v := (f 6)) rfl rfl (by simp [go_sem, (a.at' 22 rfl : n.tmps[22]?.getD undef = f 6)] <;> rfl) (j 6 rfl),
  fun f s W i j l m n a => opv rfl rfl (by simp [go_sem, a.e 23 (j 7 rfl)]) rfl, trivial⟩ ?_
 intro f7 s7 W7 hB7 g7 hg7 z7
 have b7_2 := hB7.b nb5
 obtain ⟨r7_3, br7_3⟩ := hB7.is 3
 have lr7_3 := hB7.lr 3 br7_3
 obtain ⟨b82', o83', c84', r7_8, q85'⟩ := hB7.is 8
 have k7_2 := kt hg7 2 (ku hg6 2 k4_2)
 have k7_3 := kt hg7 3 (kt hg6 3 (upd_same _ _ _))
 have k7_4 := kt hg7 4 r7_8
 have k7_5 := kt hg7 5 (hB7.is 9)
 refine rw_ 24 [(24, 0), (25, 1), (26, 2), (27, 3), (28, 4), (29, 5), (30, 6), (31, 7), (32, 8), (33, 9), (34, 10), (35, 11), (36, 12), (37, 13), (38, 14), (39, 15), (40, 16), (41, 17), (42, 18), (43, 19), (44, 20), (45, 21), (46, 22), (0, 23)] [[], [0], [1], [2], [2, 3], [2, 4], [5], [6], [6], [6, 7, 8], [6, 9], [10], [11], [11, 12], [11, 13], [11, 14], [15], [16], [16, 17], [16, 18], [16], [16, 19, 20], [16, 21], [22]] (rel [iI 0, iB true, iB true, iI 0, iB true, iB true, iB true, is (.agg #[.int .i64 6000, .int .i64 6040]), is (.agg #[.int .i64 6000, .int .i64 6040]), iB true, iB true, iB true, is (.slice (some ⟨b82', o83', none⟩) 2 c84'), iI 2, iB true, iB true, iB true, is (.slice (some ⟨b82', o83', none⟩) 2 c84'), is (.pointer (some ⟨b82', o83', none⟩)), is (.agg #[.int .i64 3115, .int .i64 3119]), is (.agg #[.int .i64 3115, .int .i64 3119]), iB true, iB true, iB true])
  ⟨fun f s W i j l m n a => opm (a.v 3 k7_3),
  fun f s W i j l m n a => opv rfl rfl (by simp [go_sem, a.e 24 (j 0 rfl)]) rfl,
  fun f s W i j l m n a => opm (a.v 25 (j 1 rfl)),
  fun f s W i j l m n a => osure rfl rfl (a.says (d := 26) rfl rfl (j 2 rfl)) (gv (by simp [go_sem, a.e 5 k7_5]) rfl),
  fun f s W i j l m n a => osure rfl rfl (a.says (d := 26) rfl rfl (j 2 rfl)) (gv (by simp [go_sem, a.e 27 (j 3 rfl)]) rfl),
  fun f s W i j l m n a => opk (c := true) rfl rfl (fun h => absurd h (by decide)) (fun _ => by simp [go_sem, a.e 26 (j 2 rfl), a.e 28 (j 4 rfl)]),
  fun f s W i j l m n a => opm (a.v 29 (j 5 rfl)),
  fun f s W i j l m n a => osure rfl rfl (a.says (d := 30) rfl rfl (j 6 rfl)) (gv (by simp [go_sem, a.e 2 k7_2, cb b7_2 i 0, cb b7_2 i 1]) rfl),
  fun f s W i j l m n a => osure rfl rfl (a.says (d := 30) rfl rfl (j 6 rfl)) (gc (by simp [go_sem]) (arm_spanR (6000) (6040) W)),
  fun f s W i j l m n a => osure rfl rfl (a.says (d := 30) rfl rfl (j 6 rfl)) (gv (by simp [go_sem, a.e 31 (j 7 rfl), a.e 32 (j 8 rfl)]) rfl),
  fun f s W i j l m n a => opk (c := true) rfl rfl (fun h => absurd h (by decide)) (fun _ => by simp [go_sem, a.e 30 (j 6 rfl), a.e 33 (j 9 rfl)]),
  fun f s W i j l m n a => opm (a.v 34 (j 10 rfl)),
  fun f s W i j l m n a => osure rfl rfl (a.says (d := 35) rfl rfl (j 11 rfl)) (gv (by simp [go_sem, a.e 4 k7_4]) rfl),
  fun f s W i j l m n a => osure rfl rfl (a.says (d := 35) rfl rfl (j 11 rfl)) (gv (by simp [go_sem, a.e 36 (j 12 rfl)]) rfl),
  fun f s W i j l m n a => osure rfl rfl (a.says (d := 35) rfl rfl (j 11 rfl)) (gv (by simp [go_sem, a.e 37 (j 13 rfl)]) rfl),
  fun f s W i j l m n a => opk (c := true) rfl rfl (fun h => absurd h (by decide)) (fun _ => by simp [go_sem, a.e 35 (j 11 rfl), a.e 38 (j 14 rfl)]),
  fun f s W i j l m n a => opm (a.v 39 (j 15 rfl)),
  fun f s W i j l m n a => osure rfl rfl (a.says (d := 40) rfl rfl (j 16 rfl)) (gv (by simp [go_sem, a.e 4 k7_4]) rfl),
  fun f s W i j l m n a => osure rfl rfl (a.says (d := 40) rfl rfl (j 16 rfl)) (gv (by simp [go_sem, a.e 41 (j 17 rfl)]) rfl),
  fun f s W i j l m n a => osure rfl rfl (a.says (d := 40) rfl rfl (j 16 rfl)) (by have cu_ := (q85'.below i).2 0 (by decide); have cv_ : W.cell? ⟨b82', o83', none⟩ = some (.int .i64 3115) := cu_.1; have cw_ : W.cell? ⟨b82', o83' + 1, none⟩ = some (.int .i64 3119) := cu_.2; exact gv (by simp [go_sem, a.e 42 (j 18 rfl), cv_, cw_]) rfl),
  fun f s W i j l m n a => osure rfl rfl (a.says (d := 40) rfl rfl (j 16 rfl)) (gc (by simp [go_sem]) (arm_spanR (3115) (3119) W)),
  fun f s W i j l m n a => osure rfl rfl (a.says (d := 40) rfl rfl (j 16 rfl)) (gv (by simp [go_sem, a.e 43 (j 19 rfl), a.e 44 (j 20 rfl)]) rfl),
  fun f s W i j l m n a => opk (c := true) rfl rfl (fun h => absurd h (by decide)) (fun _ => by simp [go_sem, a.e 40 (j 16 rfl), a.e 45 (j 21 rfl)]),
  fun f s W i j l m n a => opm (a.v 46 (j 22 rfl)), trivial⟩ ?_
 intro f8 s8 W8 hB8 g8 hg8 z8
 have fB8 := hB8.f (hB7.f fB5)
 have q86' := (q85'.below hB8.below)
 have k8_0 := kt hg8 0 (hB8.is 23)
 refine wp_ret ?_
 refine leave_one (N := 47) (.inr rfl) Try.results14 rfl k8_0 ?_
 exact ⟨rfl, fB8⟩
end Go.Proofs.Ytcgccflcjejlhaa
