/- Part of the proof: what the claim leans on. -/
import Derived.Test.YtcgccflcjejlhaaVBM
import Derived.Test.YtcgccflcjejlhaaVAS
set_option maxHeartbeats 400000
set_option maxRecDepth 100000
set_option linter.unusedSimpArgs false
set_option linter.unusedVariables false
namespace Go.Proofs.Ytcgccflcjejlhaa
open Go.RowKit
def rxS (i : Nat) : Int × Int := if i = 0 then (3100, 3160) else (6100, 6100)
def rxL (i : Nat) : Int × Int := if i = 0 then (3115, 3119) else (6100, 6100)
theorem rxR {W : World} {b : Nat} {T : TypeId} (h : W.heap[b]? = some (.cells #[.int .i64 3100, .int .i64 3160, .int .i64 6100, .int .i64 6100] T (0, 0))) : SpL W (some ⟨b, 0, none⟩) 2 rxS :=
  .inr ⟨b, 0, rfl, ltb h, fun i hi => by
    match i, hi with
    | 0, _ => exact ⟨(Joins.cell_of_block h 0).trans rfl, (Joins.cell_of_block h 1).trans rfl⟩
    | 1, _ => exact ⟨(Joins.cell_of_block h 2).trans rfl, (Joins.cell_of_block h 3).trans rfl⟩⟩
theorem rxIn : ∀ i, i < 2 → RoIn 100 (rxS i) := fun i hi => by
  match i, hi with
  | 0, _ => exact ⟨by decide⟩
  | 1, _ => exact ⟨by decide⟩
theorem rxUp : RoUp 3 2 100 := ⟨by decide, by decide, by decide⟩
theorem WebR.below {B bw ua pa ub pb uc pc : Nat} {c00 c01 c02 c10 c11 c12 c20 c21 c22 : Int} {W W' : World} (h : WebR B bw ua pa ub pb uc pc c00 c01 c02 c10 c11 c12 c20 c21 c22 W) (hb : Below W.heap.size W W') : WebR B bw ua pa ub pb uc pc c00 c01 c02 c10 c11 c12 c20 c21 c22 W' :=
  ⟨bwb h.hb hb, bwb h.h0 hb, bwb h.h1 hb, bwb h.h2 hb, h.lb, h.ne⟩
def IsWeb (B : Nat) (v : Value) (W : World) : Prop := ∃ bw ua pa ub pb uc pc, v = .slice (some ⟨bw, 0, none⟩) 3 3 ∧ WebR B bw ua pa ub pb uc pc 0 1099511627776 1099511627776 1099511627776 0 1099511627776 1099511627776 1099511627776 0 W
theorem IsWeb.below {B : Nat} {v : Value} {W W' : World} (h : IsWeb B v W) (hb : Below W.heap.size W W') : IsWeb B v W' := by
  obtain ⟨bw, ua, pa, ub, pb, uc, pc, e, h⟩ := h; exact ⟨bw, ua, pa, ub, pb, uc, pc, e, h.below hb⟩
theorem lasts_ex (br : Nat) (w : World) (hb : w.heap[br]? = some (.cells #[.int .i64 3100, .int .i64 3160, .int .i64 6100, .int .i64 6100] 43 (0, 0))) :
  Calls Try.prog 35 #[.agg #[.int .i64 3, .int .i64 2, .int .i64 100, .slice (some ⟨br, 0, none⟩) 2 2]] w (fun e w' => e = .returned (.tuple #[.agg #[.int .i64 6000, .int .i64 6040], .int .i64 0]) ∧ Below w.heap.size w w') := by
 refine calls_fr Try.func35 Try.ntmps35 rfl rfl fun g hg => ?_
 have k0 : g 0 = .agg #[.int .i64 3, .int .i64 2, .int .i64 100, .slice (some ⟨br, 0, none⟩) 2 2] := hg 0
 clear hg
 have fB0 : Below w.heap.size w w := Below.refl _ _
 have lt_br := ltb hb
 refine rw_ 3 [(1, 0), (2, 1), (3, 2)] [[], [], []] (rel [bx 0 #[.int .i64 3, .int .i64 2, .int .i64 100, .slice (some ⟨br, 0, none⟩) 2 2] 80, bx 1 #[.int .i64 0, .int .i64 0] 43, iI 0])
  ⟨fun f s W c d h i j a => opb rfl rfl (by simp [go_sem, a.e 0 k0]),
  fun f s W c d h i j a => opb rfl rfl (by simp [go_sem]),
  fun f s W c d h i j a => opz, trivial⟩ ?_
 intro f1 s1 W1 hB1 g1 hg1 z1
 have b1_0 := hB1.b hb
 obtain ⟨r1_0, br1_0⟩ := hB1.is 0
 have lr1_0 := hB1.lr 0 br1_0
 obtain ⟨r1_1, br1_1⟩ := hB1.is 1
 have lr1_1 := hB1.lr 1 br1_1
 have ne1_0_1 := hB1.nb 0 1
 have k1_1 := kt hg1 1 r1_0
 refine wp_seq_k fun K2 hK2 => ?_
 refine rw_ 3 [(5, 0), (6, 1), (4, 2)] [[], [0], [1]] (rel [is (.agg #[.int .i64 3, .int .i64 2, .int .i64 100, .slice (some ⟨br, 0, none⟩) 2 2]), iI 0, iI 0])
  ⟨fun f s W c d h i j a => opv rfl rfl (by simp [go_sem, a.e 1 k1_1, cb br1_0 c 0, cb br1_0 c 1, cb br1_0 c 2, cb br1_0 c 3]) rfl,
  fun f s W c d h i j a => opc rfl rfl (by simp [go_sem, a.e 5 (d 0 rfl)]) (ro_stand_yes 3 2 100 rxS (some ⟨br, 0, none⟩) 2 2 W rxUp (rxR (bwb b1_0 c)) rxIn (by decide)),
  fun f s W c d h i j a => opm (a.v 6 (d 1 rfl)), trivial⟩ ?_
 intro f2 s2 W2 hB2 g2 hg2 z2
 have k2_4 := kt hg2 4 (hB2.is 2)
 refine rw_ 2 [(7, 0), (8, 1)] [[], [0]] (rel [iI 0, iB false])
  ⟨fun f s W c d h i j a => opm (a.v 4 k2_4),
  fun f s W c d h i j a => opv rfl rfl (by simp [go_sem, a.e 7 (d 0 rfl)]) rfl, trivial⟩ ?_
 intro f3 s3 W3 hB3 g3 hg3 z3
 have b3_0 := hB3.b (hB2.b b1_0)
 have b3_1 := hB3.b (hB2.b br1_0)
 have k3_1 := kt hg3 1 (kt hg2 1 k1_1)
 have k3_8 := kt hg3 8 (hB3.is 1)
 refine wp_cond_false ((fr_eval rfl).trans k3_8) ?_
 refine wp_skip ?_
 refine hK2 _ _ ?_
 refine wp_seq_k fun K6 hK6 => ?_
 refine ry 6 [(11, 0), (12, 1), (13, 2), (14, 3), (15, 4), (16, 5), (3, 7)] [[], [0], [], [2], [3], [1, 4], [0, 1, 2, 3, 4, 5], [0, 1, 2, 3, 4, 5, 6]] (rel [is (.agg #[.int .i64 3, .int .i64 2, .int .i64 100, .slice (some ⟨br, 0, none⟩) 2 2]), is (.agg #[.int .i64 3, .int .i64 2, .int .i64 100, .slice (some ⟨br, 0, none⟩) 2 2]), is (.agg #[.int .i64 3, .int .i64 2, .int .i64 100, .slice (some ⟨br, 0, none⟩) 2 2]), is (.agg #[.int .i64 3, .int .i64 2, .int .i64 100, .slice (some ⟨br, 0, none⟩) 2 2]), is (.agg #[.int .i64 9000, .int .i64 9060]), is (.agg #[.int .i64 6000, .int .i64 6040])])
  ⟨fun f s W c d h i j a => opv rfl rfl (by simp [go_sem, a.e 1 k3_1, cb b3_1 c 0, cb b3_1 c 1, cb b3_1 c 2, cb b3_1 c 3]) rfl,
  fun f s W c d h i j a => opv rfl rfl (by simp [go_sem, a.e 11 (d 0 rfl)]) rfl,
  fun f s W c d h i j a => opv rfl rfl (by simp [go_sem, a.e 1 k3_1, cb b3_1 c 0, cb b3_1 c 1, cb b3_1 c 2, cb b3_1 c 3]) rfl,
  fun f s W c d h i j a => opv rfl rfl (by simp [go_sem, a.e 13 (d 2 rfl)]) rfl,
  fun f s W c d h i j a => opc rfl rfl (by simp [go_sem, a.e 14 (d 3 rfl)]) (ro_end 3 2 100 rxS (some ⟨br, 0, none⟩) 2 2 W (rxR (bwb b3_0 c)) rxIn (by decide) (by decide)),
  fun f s W c d h i j a => opc rfl rfl (by simp [go_sem, a.e 12 (d 1 rfl), a.e 15 (d 4 rfl)]) (ro_places 3 2 100 (some ⟨br, 0, none⟩) 2 2 9000 9060 W rxUp (by decide) (by decide)), trivial⟩ ?_
 intro f4 s4 W4 hB4 g4 hg4 z4
 have fB4 := hB4.f (hB3.f (hB2.f (hB1.f fB0)))
 have b4_2 := hB4.b (hB3.b (hB2.b br1_1))
 have k4_2 := kt hg4 2 (kt hg3 2 (kt hg2 2 (kt hg1 2 r1_1)))
 have k4_16 := kt hg4 16 (hB4.is 5)
 obtain ⟨W5, hW5⟩ : ∃ W', W' = W4.setRow (s1 1) #[.int .i64 6000, .int .i64 6040] := ⟨_, rfl⟩
 refine tsk (o := _) rfl ⟨rfl, rfl⟩ (run_seg hW5 (fr_ev k4_2) (fr_ev k4_16) b4_2 rfl rfl rfl rfl) ?_
 obtain ⟨fB5, nb5, ot5, z5⟩ := sgf hW5 fB4 b4_2 (by omega)
 clear hW5
 refine tail_value (o := _) rfl rfl rfl (v := .int .i64 0) (by simp [go_sem]) ?_
 generalize hg6 : upd g4 3 (.int .i64 0) = g6
 have k6_2 := ku hg6 2 k4_2
 have k6_3 := kt hg6 3 (upd_same _ _ _)
 refine wpe ?_
 refine hK6 _ _ ?_
 refine wp_ret ?_
 refine leave_gen (v := .tuple #[.agg #[.int .i64 6000, .int .i64 6040], .int .i64 0]) (.inr rfl) (by simp [results, Try.results35, go_sem, frv 17 k6_2, cl nb5 0, cl nb5 1, frv 17 k6_3]) ?_
 exact ⟨rfl, fB5⟩
theorem lab1 (w : World) :
  Calls Try.prog 70 #[.agg #[.int .i64 0, .int .i64 2010, .int .i64 2012]] w (fun e w' => e = .returned (.bool false) ∧ Below w.heap.size w w') := by
 refine calls_fr Try.func70 Try.ntmps70 rfl rfl fun g hg => ?_
 have k0 : g 0 = .agg #[.int .i64 0, .int .i64 2010, .int .i64 2012] := hg 0
 clear hg
 have fB0 : Below w.heap.size w w := Below.refl _ _
 refine rw_ 2 [(1, 0), (2, 1)] [[], []] (rel [bx 0 #[.int .i64 0, .int .i64 2010, .int .i64 2012] 122, iB false])
  ⟨fun f s W c d h i j a => opb rfl rfl (by simp [go_sem, a.e 0 k0]),
  fun f s W c d h i j a => opz, trivial⟩ ?_
 intro f1 s1 W1 hB1 g1 hg1 z1
 obtain ⟨r1_0, br1_0⟩ := hB1.is 0
 have lr1_0 := hB1.lr 0 br1_0
 have k1_1 := kt hg1 1 r1_0
 refine rw_ 5 [(3, 0), (4, 1), (5, 2), (6, 3), (2, 4)] [[], [0], [1], [2], [3]] (rel [is (.pointer (some ⟨(s1 0), 1, none⟩)), is (.agg #[.int .i64 2010, .int .i64 2012]), iB true, iB false, iB false])
  ⟨fun f s W c d h i j a => opv rfl rfl (by simp [go_sem, a.e 1 k1_1]) rfl,
  fun f s W c d h i j a => opv rfl rfl (by simp [go_sem, a.e 3 (d 0 rfl), cb br1_0 c 1, cb br1_0 c 2]) rfl,
  fun f s W c d h i j a => opc rfl rfl (by simp [go_sem, a.e 4 (d 1 rfl)]) (ro_isSpan_yes 2010 2012 0 70000000 W (by decide) (by decide) (by decide)),
  fun f s W c d h i j a => opv rfl rfl (by simp [go_sem, a.e 5 (d 2 rfl)]) rfl,
  fun f s W c d h i j a => opm (a.v 6 (d 3 rfl)), trivial⟩ ?_
 intro f2 s2 W2 hB2 g2 hg2 z2
 have fB2 := hB2.f (hB1.f fB0)
 have k2_2 := kt hg2 2 (hB2.is 4)
 refine wp_ret ?_
 refine leave_one (N := 7) (.inr rfl) Try.results70 rfl k2_2 ?_
 exact ⟨rfl, fB2⟩
theorem lab2 (bs br : Nat) (w : World) (i : w.heap[bs]? = some (.cells #[.int .i64 3, .int .i64 2, .int .i64 100, .slice (some ⟨br, 0, none⟩) 2 2] 80 (0, 0))) :
  Calls Try.prog 72 #[.agg #[.int .i64 0, .int .i64 2010, .int .i64 2012], .pointer (some ⟨bs, 0, none⟩)] w (fun e w' => e = .returned (.bool false) ∧ Below w.heap.size w w') := by
 refine calls_fr Try.func72 Try.ntmps72 rfl rfl fun g hg => ?_
 have k0 : g 0 = .agg #[.int .i64 0, .int .i64 2010, .int .i64 2012] := hg 0
 have k1 : g 1 = .pointer (some ⟨bs, 0, none⟩) := hg 1
 clear hg
 have fB0 : Below w.heap.size w w := Below.refl _ _
 have lt_bs := ltb i
 refine rw_ 2 [(2, 0), (3, 1)] [[], []] (rel [bx 0 #[.int .i64 0, .int .i64 2010, .int .i64 2012] 122, iB false])
  ⟨fun f s W c d i j k a => opb rfl rfl (by simp [go_sem, a.e 0 k0]),
  fun f s W c d i j k a => opz, trivial⟩ ?_
 intro f1 s1 W1 hB1 g1 hg1 z1
 have b1_0 := hB1.b i
 obtain ⟨r1_0, br1_0⟩ := hB1.is 0
 have lr1_0 := hB1.lr 0 br1_0
 have k1_1 := kt hg1 1 k1
 have k1_2 := kt hg1 2 r1_0
 refine rw_ 10 [(4, 0), (5, 1), (6, 2), (7, 3), (8, 4), (9, 5), (10, 6), (11, 7), (12, 8), (3, 9)] [[], [0], [1], [2], [], [4], [5], [3, 6], [7], [8]] (rel [is (.pointer (some ⟨bs, 3, none⟩)), is (.slice (some ⟨br, 0, none⟩) 2 2), iI 2, iI 1, is (.pointer (some ⟨(s1 0), 0, none⟩)), iI 0, row 6 1 #[.int .i64 0] 3, iB true, iB false, iB false])
  ⟨fun f s W c d i j k a => opv rfl rfl (by simp [go_sem, a.e 1 k1_1]) rfl,
  fun f s W c d i j k a => opv rfl rfl (by simp [go_sem, a.e 4 (d 0 rfl), cb b1_0 c 3]) rfl,
  fun f s W c d i j k a => opv rfl rfl (by simp [go_sem, a.e 5 (d 1 rfl)]) rfl,
  fun f s W c d i j k a => opv rfl rfl (by simp [go_sem, a.e 6 (d 2 rfl), IntWalk.i64_in (1) (by omega)]) rfl,
  fun f s W c d i j k a => opv rfl rfl (by simp [go_sem, a.e 2 k1_2]) rfl,
  fun f s W c d i j k a => opv rfl rfl (by simp [go_sem, a.e 8 (d 4 rfl), cb br1_0 c 0]) rfl,
  fun f s W c d i j k a => opr rfl rfl (by simp [go_sem, a.e 9 (d 5 rfl)]),
  fun f s W c d i j k a => opd (args := #[.int .i64 0, .int .i64 1, .slice (some ⟨(s 6), 0, none⟩) (1) (1)]) rfl rfl (by simp [go_sem, a.e 7 (d 3 rfl), a.e 10 (d 6 rfl).1]) (ro_within_any (0) (1) _ 1 1 [0] W (ii_block (xs := [0]) (d 6 rfl).2 rfl rfl)) ((fun e W' h => by have h1 := h.1; rw [ro_within_yes (by simp)] at h1; exact ⟨_, h1, h.2, rfl⟩)),
  fun f s W c d i j k a => opv rfl rfl (by simp [go_sem, a.e 11 (d 7 rfl)]) rfl,
  fun f s W c d i j k a => opm (a.v 12 (d 8 rfl)), trivial⟩ ?_
 intro f2 s2 W2 hB2 g2 hg2 z2
 have fB2 := hB2.f (hB1.f fB0)
 obtain ⟨r2_6, br2_6⟩ := hB2.is 6
 have lr2_6 := hB2.lr 6 br2_6
 have k2_3 := kt hg2 3 (hB2.is 9)
 refine wp_ret ?_
 refine leave_one (N := 13) (.inr rfl) Try.results72 rfl k2_3 ?_
 exact ⟨rfl, fB2⟩
theorem lab_ix1 (bq : Nat) (w : World) (hq : w.heap[bq]? = some (.cells #[.int .i64 0, .int .i64 2010, .int .i64 2012] 122 (0, 0))) :
  Calls Try.prog 119 #[.slice (some ⟨bq, 0, none⟩) 1 1, .func (.func 70) #[] #[]] w (fun e w' => e = .returned (.int .i64 (-1)) ∧ Below w.heap.size w w') := by
 refine calls_fr Try.func119 Try.ntmps119 rfl rfl fun g hg => ?_
 have k0 : g 0 = .slice (some ⟨bq, 0, none⟩) 1 1 := hg 0
 have k1 : g 1 = .func (.func 70) #[] #[] := hg 1
 clear hg
 have fB0 : Below w.heap.size w w := Below.refl _ _
 have lt_bq := ltb hq
 refine rw_ 1 [(4, 0)] [[]] (rel [iI 0])
  ⟨fun f s W c d h i j a => opz, trivial⟩ ?_
 intro f1 s1 W1 hB1 g1 hg1 z1
 have k1_0 := kt hg1 0 k0
 refine wp_seq_k fun K2 hK2 => ?_
 refine rw_ 3 [(6, 0), (7, 1), (8, 2)] [[], [0], []] (rel [is (.slice (some ⟨bq, 0, none⟩) 1 1), iI 1, iI 0])
  ⟨fun f s W c d h i j a => opm (a.v 0 k1_0),
  fun f s W c d h i j a => opv rfl rfl (by simp [go_sem, a.e 6 (d 0 rfl)]) rfl,
  fun f s W c d h i j a => opz, trivial⟩ ?_
 intro f2 s2 W2 hB2 g2 hg2 z2
 have k2_7 := kt hg2 7 (hB2.is 1)
 have k2_8 := kt hg2 8 (hB2.is 2)
 refine wp_block ?_
 refine wp_loop_rounds 2 ?_
 rw [rounds_succ]
 refine rw_ 1 [(9, 0)] [[]] (rel [iB true])
  ⟨fun f s W c d h i j a => opv rfl rfl (by simp [go_sem, a.e 8 k2_8, a.e 7 k2_7]) rfl, trivial⟩ ?_
 intro f3 s3 W3 hB3 g3 hg3 z3
 have k3_8 := kt hg3 8 k2_8
 have k3_9 := kt hg3 9 (hB3.is 0)
 refine wp_seq_k fun K5 hK5 => ?_
 refine wp_cond_true ((fr_eval rfl).trans k3_9) ?_
 refine wp_skip ?_
 refine hK5 _ _ ?_
 refine wp_seq_k fun K7 hK7 => ?_
 refine wp_block ?_
 refine rw_ 2 [(10, 0), (5, 1)] [[], [0]] (rel [iI 0, iI 0])
  ⟨fun f s W c d h i j a => opm (a.v 8 k3_8),
  fun f s W c d h i j a => opm (a.v 10 (d 0 rfl)), trivial⟩ ?_
 intro f4 s4 W4 hB4 g4 hg4 z4
 have b4_0 := hB4.b (hB3.b (hB2.b (hB1.b hq)))
 have k4_0 := kt hg4 0 (kt hg3 0 (kt hg2 0 k1_0))
 have k4_1 := kt hg4 1 (kt hg3 1 (kt hg2 1 (kt hg1 1 k1)))
 have k4_5 := kt hg4 5 (hB4.is 1)
 refine rw_ 6 [(11, 0), (12, 1), (13, 2), (14, 3), (15, 4), (16, 5)] [[], [], [], [1, 2], [3], [0, 4]] (rel [is (.func (.func 70) #[] #[]), is (.slice (some ⟨bq, 0, none⟩) 1 1), iI 0, is (.pointer (some ⟨bq, 0, none⟩)), is (.agg #[.int .i64 0, .int .i64 2010, .int .i64 2012]), iB false])
  ⟨fun f s W c d h i j a => opm (a.v 1 k4_1),
  fun f s W c d h i j a => opm (a.v 0 k4_0),
  fun f s W c d h i j a => opm (a.v 5 k4_5),
  fun f s W c d h i j a => opv rfl rfl (by simp [go_sem, a.e 12 (d 1 rfl), a.e 13 (d 2 rfl)]) rfl,
  fun f s W c d h i j a => opv rfl rfl (by simp [go_sem, a.e 14 (d 3 rfl), cb b4_0 c 0, cb b4_0 c 1, cb b4_0 c 2]) rfl,
  fun f s W c d h i j a => opc rfl rfl (by simp [go_sem, a.e 15 (d 4 rfl), a.e 11 (d 0 rfl)]) (lab1 W), trivial⟩ ?_
 intro f5 s5 W5 hB5 g5 hg5 z5
 have k5_8 := kt hg5 8 (kt hg4 8 k3_8)
 have k5_16 := kt hg5 16 (hB5.is 5)
 refine wp_cond_false ((fr_eval rfl).trans k5_16) ?_
 refine wp_skip ?_
 refine ibn ?_
 refine hK7 _ _ ?_
 refine ry 2 [(18, 0), (8, 1)] [[], [0]] (rel [iI 1, iI 1])
  ⟨fun f s W c d h i j a => opv rfl rfl (by simp [go_sem, a.e 8 ((i 1 8 rfl rfl).trans k5_8), IntWalk.i64_in (1) (by omega)]) rfl,
  fun f s W c d h i j a => opm (a.v 18 (d 0 rfl)), trivial⟩ ?_
 intro f6 s6 W6 hB6 g6 hg6 z6
 refine wpe ?_
 have k6_7 := kt hg6 7 (kt hg5 7 (kt hg4 7 (kt hg3 7 k2_7)))
 have k6_8 := kt hg6 8 (hB6.is 1)
 refine then_normal ?_
 rw [rounds_succ]
 refine rw_ 1 [(9, 0)] [[]] (rel [iB false])
  ⟨fun f s W c d h i j a => opv rfl rfl (by simp [go_sem, a.e 8 k6_8, a.e 7 k6_7]) rfl, trivial⟩ ?_
 intro f7 s7 W7 hB7 g7 hg7 z7
 have k7_9 := kt hg7 9 (hB7.is 0)
 refine wp_seq_k fun K12 hK12 => ?_
 refine wp_cond_false ((fr_eval rfl).trans k7_9) ?_
 refine wp_exit ?_
 refine then_exit ?_
 refine then_exit ?_
 refine inBlock_at ?_
 refine hK2 _ _ ?_
 refine rw_ 1 [(4, 0)] [[]] (rel [iI (-1)])
  ⟨fun f s W c d h i j a => opz, trivial⟩ ?_
 intro f8 s8 W8 hB8 g8 hg8 z8
 have fB8 := hB8.f (hB7.f (hB6.f (hB5.f (hB4.f (hB3.f (hB2.f (hB1.f fB0)))))))
 have k8_4 := kt hg8 4 (hB8.is 0)
 refine wp_ret ?_
 refine leave_one (N := 19) (.inr rfl) Try.results119 rfl k8_4 ?_
 exact ⟨rfl, fB8⟩
theorem lab_ct1 (bq : Nat) (w : World) (hq : w.heap[bq]? = some (.cells #[.int .i64 0, .int .i64 2010, .int .i64 2012] 122 (0, 0))) :
  Calls Try.prog 69 #[.slice (some ⟨bq, 0, none⟩) 1 1, .func (.func 70) #[] #[]] w (fun e w' => e = .returned (.bool false) ∧ Below w.heap.size w w') := by
 refine calls_fr Try.func69 Try.ntmps69 rfl rfl fun g hg => ?_
 have k0 : g 0 = .slice (some ⟨bq, 0, none⟩) 1 1 := hg 0
 have k1 : g 1 = .func (.func 70) #[] #[] := hg 1
 clear hg
 have fB0 : Below w.heap.size w w := Below.refl _ _
 have lt_bq := ltb hq
 refine rw_ 1 [(4, 0)] [[]] (rel [iB false])
  ⟨fun f s W c d h i j a => opz, trivial⟩ ?_
 intro f1 s1 W1 hB1 g1 hg1 z1
 have b1_0 := hB1.b hq
 have k1_0 := kt hg1 0 k0
 have k1_1 := kt hg1 1 k1
 refine rw_ 5 [(5, 0), (6, 1), (7, 2), (8, 3), (4, 4)] [[], [], [0, 1], [2], [3]] (rel [is (.slice (some ⟨bq, 0, none⟩) 1 1), is (.func (.func 70) #[] #[]), iI (-1), iB false, iB false])
  ⟨fun f s W c d h i j a => opm (a.v 0 k1_0),
  fun f s W c d h i j a => opm (a.v 1 k1_1),
  fun f s W c d h i j a => opc rfl rfl (by simp [go_sem, a.e 5 (d 0 rfl), a.e 6 (d 1 rfl)]) (lab_ix1 bq W (bwb b1_0 c)),
  fun f s W c d h i j a => opv rfl rfl (by simp [go_sem, a.e 7 (d 2 rfl)]) rfl,
  fun f s W c d h i j a => opm (a.v 8 (d 3 rfl)), trivial⟩ ?_
 intro f2 s2 W2 hB2 g2 hg2 z2
 have fB2 := hB2.f (hB1.f fB0)
 have k2_4 := kt hg2 4 (hB2.is 4)
 refine wp_ret ?_
 refine leave_one (N := 9) (.inr rfl) Try.results69 rfl k2_4 ?_
 exact ⟨rfl, fB2⟩
theorem lab_ix2 (bs br : Nat) (w : World) (h : w.heap[bs]? = some (.cells #[.int .i64 3, .int .i64 2, .int .i64 100, .slice (some ⟨br, 0, none⟩) 2 2] 80 (0, 0)))(bq : Nat)  (hq : w.heap[bq]? = some (.cells #[.int .i64 0, .int .i64 2010, .int .i64 2012] 122 (0, 0))) :
  Calls Try.prog 119 #[.slice (some ⟨bq, 0, none⟩) 1 1, .func (.func 72) #[] #[.pointer (some ⟨bs, 0, none⟩)]] w (fun e w' => e = .returned (.int .i64 (-1)) ∧ Below w.heap.size w w') := by
 refine calls_fr Try.func119 Try.ntmps119 rfl rfl fun g hg => ?_
 have k0 : g 0 = .slice (some ⟨bq, 0, none⟩) 1 1 := hg 0
 have k1 : g 1 = .func (.func 72) #[] #[.pointer (some ⟨bs, 0, none⟩)] := hg 1
 clear hg
 have fB0 : Below w.heap.size w w := Below.refl _ _
 have lt_bs := ltb h
 have lt_bq := ltb hq
 refine rw_ 1 [(4, 0)] [[]] (rel [iI 0])
  ⟨fun f s W c d h i j a => opz, trivial⟩ ?_
 intro f1 s1 W1 hB1 g1 hg1 z1
 have k1_0 := kt hg1 0 k0
 refine wp_seq_k fun K2 hK2 => ?_
 refine rw_ 3 [(6, 0), (7, 1), (8, 2)] [[], [0], []] (rel [is (.slice (some ⟨bq, 0, none⟩) 1 1), iI 1, iI 0])
  ⟨fun f s W c d h i j a => opm (a.v 0 k1_0),
  fun f s W c d h i j a => opv rfl rfl (by simp [go_sem, a.e 6 (d 0 rfl)]) rfl,
  fun f s W c d h i j a => opz, trivial⟩ ?_
 intro f2 s2 W2 hB2 g2 hg2 z2
 have k2_7 := kt hg2 7 (hB2.is 1)
 have k2_8 := kt hg2 8 (hB2.is 2)
 refine wp_block ?_
 refine wp_loop_rounds 2 ?_
 rw [rounds_succ]
 refine rw_ 1 [(9, 0)] [[]] (rel [iB true])
  ⟨fun f s W c d h i j a => opv rfl rfl (by simp [go_sem, a.e 8 k2_8, a.e 7 k2_7]) rfl, trivial⟩ ?_
 intro f3 s3 W3 hB3 g3 hg3 z3
 have k3_8 := kt hg3 8 k2_8
 have k3_9 := kt hg3 9 (hB3.is 0)
 refine wp_seq_k fun K5 hK5 => ?_
 refine wp_cond_true ((fr_eval rfl).trans k3_9) ?_
 refine wp_skip ?_
 refine hK5 _ _ ?_
 refine wp_seq_k fun K7 hK7 => ?_
 refine wp_block ?_
 refine rw_ 2 [(10, 0), (5, 1)] [[], [0]] (rel [iI 0, iI 0])
  ⟨fun f s W c d h i j a => opm (a.v 8 k3_8),
  fun f s W c d h i j a => opm (a.v 10 (d 0 rfl)), trivial⟩ ?_
 intro f4 s4 W4 hB4 g4 hg4 z4
 have b4_0 := hB4.b (hB3.b (hB2.b (hB1.b h)))
 have b4_1 := hB4.b (hB3.b (hB2.b (hB1.b hq)))
 have k4_0 := kt hg4 0 (kt hg3 0 (kt hg2 0 k1_0))
 have k4_1 := kt hg4 1 (kt hg3 1 (kt hg2 1 (kt hg1 1 k1)))
 have k4_5 := kt hg4 5 (hB4.is 1)
 refine rw_ 6 [(11, 0), (12, 1), (13, 2), (14, 3), (15, 4), (16, 5)] [[], [], [], [1, 2], [3], [0, 4]] (rel [is (.func (.func 72) #[] #[.pointer (some ⟨bs, 0, none⟩)]), is (.slice (some ⟨bq, 0, none⟩) 1 1), iI 0, is (.pointer (some ⟨bq, 0, none⟩)), is (.agg #[.int .i64 0, .int .i64 2010, .int .i64 2012]), iB false])
  ⟨fun f s W c d h i j a => opm (a.v 1 k4_1),
  fun f s W c d h i j a => opm (a.v 0 k4_0),
  fun f s W c d h i j a => opm (a.v 5 k4_5),
  fun f s W c d h i j a => opv rfl rfl (by simp [go_sem, a.e 12 (d 1 rfl), a.e 13 (d 2 rfl)]) rfl,
  fun f s W c d h i j a => opv rfl rfl (by simp [go_sem, a.e 14 (d 3 rfl), cb b4_1 c 0, cb b4_1 c 1, cb b4_1 c 2]) rfl,
  fun f s W c d h i j a => opc rfl rfl (by simp [go_sem, a.e 15 (d 4 rfl), a.e 11 (d 0 rfl)]) (lab2 bs br W (bwb b4_0 c)), trivial⟩ ?_
 intro f5 s5 W5 hB5 g5 hg5 z5
 have k5_8 := kt hg5 8 (kt hg4 8 k3_8)
 have k5_16 := kt hg5 16 (hB5.is 5)
 refine wp_cond_false ((fr_eval rfl).trans k5_16) ?_
 refine wp_skip ?_
 refine ibn ?_
 refine hK7 _ _ ?_
 refine ry 2 [(18, 0), (8, 1)] [[], [0]] (rel [iI 1, iI 1])
  ⟨fun f s W c d h i j a => opv rfl rfl (by simp [go_sem, a.e 8 ((i 1 8 rfl rfl).trans k5_8), IntWalk.i64_in (1) (by omega)]) rfl,
  fun f s W c d h i j a => opm (a.v 18 (d 0 rfl)), trivial⟩ ?_
 intro f6 s6 W6 hB6 g6 hg6 z6
 refine wpe ?_
 have k6_7 := kt hg6 7 (kt hg5 7 (kt hg4 7 (kt hg3 7 k2_7)))
 have k6_8 := kt hg6 8 (hB6.is 1)
 refine then_normal ?_
 rw [rounds_succ]
 refine rw_ 1 [(9, 0)] [[]] (rel [iB false])
  ⟨fun f s W c d h i j a => opv rfl rfl (by simp [go_sem, a.e 8 k6_8, a.e 7 k6_7]) rfl, trivial⟩ ?_
 intro f7 s7 W7 hB7 g7 hg7 z7
 have k7_9 := kt hg7 9 (hB7.is 0)
 refine wp_seq_k fun K12 hK12 => ?_
 refine wp_cond_false ((fr_eval rfl).trans k7_9) ?_
 refine wp_exit ?_
 refine then_exit ?_
 refine then_exit ?_
 refine inBlock_at ?_
 refine hK2 _ _ ?_
 refine rw_ 1 [(4, 0)] [[]] (rel [iI (-1)])
  ⟨fun f s W c d h i j a => opz, trivial⟩ ?_
 intro f8 s8 W8 hB8 g8 hg8 z8
 have fB8 := hB8.f (hB7.f (hB6.f (hB5.f (hB4.f (hB3.f (hB2.f (hB1.f fB0)))))))
 have k8_4 := kt hg8 4 (hB8.is 0)
 refine wp_ret ?_
 refine leave_one (N := 19) (.inr rfl) Try.results119 rfl k8_4 ?_
 exact ⟨rfl, fB8⟩
theorem lab_ct2 (bs br : Nat) (w : World) (h : w.heap[bs]? = some (.cells #[.int .i64 3, .int .i64 2, .int .i64 100, .slice (some ⟨br, 0, none⟩) 2 2] 80 (0, 0)))(bq : Nat)  (hq : w.heap[bq]? = some (.cells #[.int .i64 0, .int .i64 2010, .int .i64 2012] 122 (0, 0))) :
  Calls Try.prog 69 #[.slice (some ⟨bq, 0, none⟩) 1 1, .func (.func 72) #[] #[.pointer (some ⟨bs, 0, none⟩)]] w (fun e w' => e = .returned (.bool false) ∧ Below w.heap.size w w') := by
 refine calls_fr Try.func69 Try.ntmps69 rfl rfl fun g hg => ?_
 have k0 : g 0 = .slice (some ⟨bq, 0, none⟩) 1 1 := hg 0
 have k1 : g 1 = .func (.func 72) #[] #[.pointer (some ⟨bs, 0, none⟩)] := hg 1
 clear hg
 have fB0 : Below w.heap.size w w := Below.refl _ _
 have lt_bs := ltb h
 have lt_bq := ltb hq
 refine rw_ 1 [(4, 0)] [[]] (rel [iB false])
  ⟨fun f s W c d h i j a => opz, trivial⟩ ?_
 intro f1 s1 W1 hB1 g1 hg1 z1
 have b1_0 := hB1.b h
 have b1_1 := hB1.b hq
 have k1_0 := kt hg1 0 k0
 have k1_1 := kt hg1 1 k1
 refine rw_ 5 [(5, 0), (6, 1), (7, 2), (8, 3), (4, 4)] [[], [], [0, 1], [2], [3]] (rel [is (.slice (some ⟨bq, 0, none⟩) 1 1), is (.func (.func 72) #[] #[.pointer (some ⟨bs, 0, none⟩)]), iI (-1), iB false, iB false])
  ⟨fun f s W c d h i j a => opm (a.v 0 k1_0),
  fun f s W c d h i j a => opm (a.v 1 k1_1),
  fun f s W c d h i j a => opc rfl rfl (by simp [go_sem, a.e 5 (d 0 rfl), a.e 6 (d 1 rfl)]) (lab_ix2 bs br W (bwb b1_0 c) bq (bwb b1_1 c)),
  fun f s W c d h i j a => opv rfl rfl (by simp [go_sem, a.e 7 (d 2 rfl)]) rfl,
  fun f s W c d h i j a => opm (a.v 8 (d 3 rfl)), trivial⟩ ?_
 intro f2 s2 W2 hB2 g2 hg2 z2
 have fB2 := hB2.f (hB1.f fB0)
 have k2_4 := kt hg2 4 (hB2.is 4)
 refine wp_ret ?_
 refine leave_one (N := 9) (.inr rfl) Try.results69 rfl k2_4 ?_
 exact ⟨rfl, fB2⟩
theorem seen_ex (br : Nat) (w : World) :
  Calls Try.prog 76 #[.agg #[.int .i64 3, .int .i64 2, .int .i64 100, .slice (some ⟨br, 0, none⟩) 2 2], .agg #[.int .i64 2010, .int .i64 2012]] w (fun e w' => e = .returned (.agg #[.int .i64 3015, .int .i64 3019]) ∧ Below w.heap.size w w') := by
 refine calls_fr Try.func76 Try.ntmps76 rfl rfl fun g hg => ?_
 have k0 : g 0 = .agg #[.int .i64 3, .int .i64 2, .int .i64 100, .slice (some ⟨br, 0, none⟩) 2 2] := hg 0
 have k1 : g 1 = .agg #[.int .i64 2010, .int .i64 2012] := hg 1
 clear hg
 have fB0 : Below w.heap.size w w := Below.refl _ _
 refine rw_ 3 [(2, 0), (3, 1), (4, 2)] [[], [], []] (rel [bx 0 #[.int .i64 3, .int .i64 2, .int .i64 100, .slice (some ⟨br, 0, none⟩) 2 2] 128, bx 1 #[.int .i64 2010, .int .i64 2012] 43, bx 2 #[.int .i64 0, .int .i64 0] 43])
  ⟨fun f s W c d h i j a => opb rfl rfl (by simp [go_sem, a.e 0 k0]),
  fun f s W c d h i j a => opb rfl rfl (by simp [go_sem, a.e 1 k1]),
  fun f s W c d h i j a => opb rfl rfl (by simp [go_sem]), trivial⟩ ?_
 intro f1 s1 W1 hB1 g1 hg1 z1
 obtain ⟨r1_0, br1_0⟩ := hB1.is 0
 have lr1_0 := hB1.lr 0 br1_0
 obtain ⟨r1_1, br1_1⟩ := hB1.is 1
 have lr1_1 := hB1.lr 1 br1_1
 obtain ⟨r1_2, br1_2⟩ := hB1.is 2
 have lr1_2 := hB1.lr 2 br1_2
 have ne1_0_1 := hB1.nb 0 1
 have ne1_0_2 := hB1.nb 0 2
 have ne1_1_2 := hB1.nb 1 2
 have k1_2 := kt hg1 2 r1_0
 have k1_3 := kt hg1 3 r1_1
 refine wp_seq_k fun K2 hK2 => ?_
 refine ry 27 [(5, 0), (6, 1), (7, 2), (8, 3), (9, 4), (10, 5), (11, 6), (12, 7), (13, 8), (14, 9), (15, 10), (16, 11), (17, 12), (18, 13), (19, 14), (20, 15), (21, 16), (22, 17), (23, 18), (24, 19), (25, 20), (26, 21), (27, 22), (28, 23), (29, 24), (30, 25), (31, 26)] [[], [0], [], [2], [3], [4], [1, 5], [], [7], [8], [9], [6, 10], [], [12], [13], [], [15], [16], [17], [14, 18], [], [20], [21], [22], [19, 23], [24], [11, 25], [0, 1, 2, 3, 4, 5, 6, 7, 8, 9, 10, 11, 12, 13, 14, 15, 16, 17, 18, 19, 20, 21, 22, 23, 24, 25, 26]] (rel [is (.pointer (some ⟨(s1 1), 0, none⟩)), iI 2010, is (.pointer (some ⟨(s1 0), 0, none⟩)), is (.pointer (some ⟨(s1 0), 0, none⟩)), is (.pointer (some ⟨(s1 0), 0, none⟩)), iI 3, iI 6030, is (.pointer (some ⟨(s1 0), 0, none⟩)), is (.pointer (some ⟨(s1 0), 0, none⟩)), is (.pointer (some ⟨(s1 0), 1, none⟩)), iI 2, iI 3015, is (.pointer (some ⟨(s1 1), 1, none⟩)), iI 2012, iI 2013, is (.pointer (some ⟨(s1 0), 0, none⟩)), is (.pointer (some ⟨(s1 0), 0, none⟩)), is (.pointer (some ⟨(s1 0), 0, none⟩)), iI 3, iI 6039, is (.pointer (some ⟨(s1 0), 0, none⟩)), is (.pointer (some ⟨(s1 0), 0, none⟩)), is (.pointer (some ⟨(s1 0), 1, none⟩)), iI 2, iI 3020, iI 3019, is (.agg #[.int .i64 3015, .int .i64 3019])])
  ⟨fun f s W c d h i j a => opv rfl rfl (by simp [go_sem, a.e 3 k1_3]) rfl,
  fun f s W c d h i j a => opv rfl rfl (by simp [go_sem, a.e 5 (d 0 rfl), cb br1_1 c 0]) rfl,
  fun f s W c d h i j a => opv rfl rfl (by simp [go_sem, a.e 2 k1_2]) rfl,
  fun f s W c d h i j a => opv rfl rfl (by simp [go_sem, a.e 7 (d 2 rfl)]) rfl,
  fun f s W c d h i j a => opv rfl rfl (by simp [go_sem, a.e 8 (d 3 rfl)]) rfl,
  fun f s W c d h i j a => opv rfl rfl (by simp [go_sem, a.e 9 (d 4 rfl), cb br1_0 c 0]) rfl,
  fun f s W c d h i j a => opv rfl rfl (by simp [go_sem, a.e 6 (d 1 rfl), a.e 10 (d 5 rfl), IntWalk.i64_in (6030) (by omega)]) rfl,
  fun f s W c d h i j a => opv rfl rfl (by simp [go_sem, a.e 2 k1_2]) rfl,
  fun f s W c d h i j a => opv rfl rfl (by simp [go_sem, a.e 12 (d 7 rfl)]) rfl,
  fun f s W c d h i j a => opv rfl rfl (by simp [go_sem, a.e 13 (d 8 rfl)]) rfl,
  fun f s W c d h i j a => opv rfl rfl (by simp [go_sem, a.e 14 (d 9 rfl), cb br1_0 c 1]) rfl,
  fun f s W c d h i j a => opc rfl rfl (by simp [go_sem, a.e 11 (d 6 rfl), a.e 15 (d 10 rfl)]) (ro_up 6030 2 W (by decide) (by decide)),
  fun f s W c d h i j a => opv rfl rfl (by simp [go_sem, a.e 3 k1_3]) rfl,
  fun f s W c d h i j a => opv rfl rfl (by simp [go_sem, a.e 17 (d 12 rfl), cb br1_1 c 1]) rfl,
  fun f s W c d h i j a => opv rfl rfl (by simp [go_sem, a.e 18 (d 13 rfl), IntWalk.i64_in (2013) (by omega)]) rfl,
  fun f s W c d h i j a => opv rfl rfl (by simp [go_sem, a.e 2 k1_2]) rfl,
  fun f s W c d h i j a => opv rfl rfl (by simp [go_sem, a.e 20 (d 15 rfl)]) rfl,
  fun f s W c d h i j a => opv rfl rfl (by simp [go_sem, a.e 21 (d 16 rfl)]) rfl,
  fun f s W c d h i j a => opv rfl rfl (by simp [go_sem, a.e 22 (d 17 rfl), cb br1_0 c 0]) rfl,
  fun f s W c d h i j a => opv rfl rfl (by simp [go_sem, a.e 19 (d 14 rfl), a.e 23 (d 18 rfl), IntWalk.i64_in (6039) (by omega)]) rfl,
  fun f s W c d h i j a => opv rfl rfl (by simp [go_sem, a.e 2 k1_2]) rfl,
  fun f s W c d h i j a => opv rfl rfl (by simp [go_sem, a.e 25 (d 20 rfl)]) rfl,
  fun f s W c d h i j a => opv rfl rfl (by simp [go_sem, a.e 26 (d 21 rfl)]) rfl,
  fun f s W c d h i j a => opv rfl rfl (by simp [go_sem, a.e 27 (d 22 rfl), cb br1_0 c 1]) rfl,
  fun f s W c d h i j a => opc rfl rfl (by simp [go_sem, a.e 24 (d 19 rfl), a.e 28 (d 23 rfl)]) (ro_up 6039 2 W (by decide) (by decide)),
  fun f s W c d h i j a => opv rfl rfl (by simp [go_sem, a.e 29 (d 24 rfl), IntWalk.i64_in (3019) (by omega)]) rfl,
  fun f s W c d h i j a => opv rfl rfl (by simp [go_sem, a.e 16 (d 11 rfl), a.e 30 (d 25 rfl)]) rfl, trivial⟩ ?_
 intro f2 s2 W2 hB2 g2 hg2 z2
 have fB2 := hB2.f (hB1.f fB0)
 have b2_2 := hB2.b br1_2
 have k2_4 := kt hg2 4 (kt hg1 4 r1_2)
 have k2_31 := kt hg2 31 (hB2.is 26)
 obtain ⟨W3, hW3⟩ : ∃ W', W' = W2.setRow (s1 2) #[.int .i64 3015, .int .i64 3019] := ⟨_, rfl⟩
 refine tsk (o := _) rfl ⟨rfl, rfl⟩ (run_seg hW3 (fr_ev k2_4) (fr_ev k2_31) b2_2 rfl rfl rfl rfl) ?_
 obtain ⟨fB3, nb3, ot3, z3⟩ := sgf hW3 fB2 b2_2 (by omega)
 clear hW3
 refine wpe ?_
 refine hK2 _ _ ?_
 refine wp_ret ?_
 refine leave_gen (v := .agg #[.int .i64 3015, .int .i64 3019]) (.inr rfl) (by simp [results, Try.results76, go_sem, frv 32 k2_4, cl nb3 0, cl nb3 1]) ?_
 exact ⟨rfl, fB3⟩
end Go.Proofs.Ytcgccflcjejlhaa
