/- Part of the proof: what the claim leans on. -/
import Derived.Test.YtnhipdbdolabkaaWAG
import Derived.Test.YtnhipdbdolabkaaWAF
import Derived.Test.YtnhipdbdolabkaaWAC
import Derived.RangeFuncNested
import Derived.RangeFuncBound
import Derived.RangeFuncCalls
import Derived.RangeFuncLeaves
import Derived.Shelf.Abstract
import Derived.Shelf.RegionOpen
import Derived.WalkKit
import Derived.OwnWalkIn
import Derived.TacticsInMore
import Derived.LoopNIn
import Derived.LoopIn
import Derived.Test.YtnhipdbdolabkaaWAB
set_option linter.unusedSimpArgs false
set_option linter.unusedVariables false
namespace Go.Proofs.Ytnhipdbdolabkaa
open Go.RowKit
/-- A box whose lists are one's own. -/
def BoxO (B : Nat) (tb lg wd hh fp fq sl : Int) (v : Value) (W : World) : Prop := ∃ g1 c1 g2 c2 g3 c3, v = .agg #[.int .i64 tb, .slice (some ⟨g1, 0, none⟩) 4 c1, .int .i64 hh, .slice (some ⟨g2, 0, none⟩) 2 c2, .slice (some ⟨g3, 0, none⟩) 2 c3, .int .i64 sl, .bool false] ∧ OwnI B [lg, wd, lg, wd] g1 c1 W ∧ OwnI B [fp, fp] g2 c2 W ∧ OwnI B [fp, fq] g3 c3 W
theorem BoxO.below {B : Nat} {tb lg wd hh fp fq sl : Int} {v : Value} {W W' : World} (h : BoxO B tb lg wd hh fp fq sl v W) (hb : Below W.heap.size W W') : BoxO B tb lg wd hh fp fq sl v W' := by
  obtain ⟨g1, c1, g2, c2, g3, c3, e, h1, h2, h3⟩ := h
  exact ⟨g1, c1, g2, c2, g3, c3, e, h1.below hb, h2.below hb, h3.below hb⟩
def BoxOP (tb lg wd hh fp fq sl : Int) (w : World) (e : Ending) (w' : World) : Prop := ∃ v, e = .returned v ∧ BoxO w.heap.size tb lg wd hh fp fq sl v w' ∧ Below w.heap.size w w'
set_option maxRecDepth 100000 in
set_option maxHeartbeats 8000000 in
theorem pubBox_any (fv : Nat → Int) (mo r3 tb r4 sl hf lg wd fp fq hh : Int) (w : World) (gfv : ∀ k, 0 ≤ fv k ∧ fv k ≤ 255) (gmo : 0 ≤ mo ∧ mo ≤ 1000) (hr3 : fv 22 % 3 = r3) (htb : fv 20 % 50 = tb) (hr4 : fv 23 % 4 = r4) (hsl : fv 24 % 21 = sl) (hhf : (50 + fv 19) / 2 = hf) (hlg : (60 + fv 18) + mo = lg) (hwd : (50 + fv 19) + mo = wd) (hfp : hf + r3 = fp) (hfq : fp + r4 = fq) (hhh : (40 + fv 21) + mo = hh) :
  Calls Try.prog 25 #[.agg #[.int .u8 ((fv 0)), .int .u8 ((fv 1)), .int .u8 ((fv 2)), .int .u8 ((fv 3)), .int .u8 ((fv 4)), .int .u8 ((fv 5)), .int .u8 ((fv 6)), .int .u8 ((fv 7)), .int .u8 ((fv 8)), .int .u8 ((fv 9)), .int .u8 ((fv 10)), .int .u8 ((fv 11)), .int .u8 ((fv 12)), .int .u8 ((fv 13)), .int .u8 ((fv 14)), .int .u8 ((fv 15)), .int .u8 ((fv 16)), .int .u8 ((fv 17)), .int .u8 ((fv 18)), .int .u8 ((fv 19)), .int .u8 ((fv 20)), .int .u8 ((fv 21)), .int .u8 ((fv 22)), .int .u8 ((fv 23)), .int .u8 ((fv 24))], .int .i64 mo] w (BoxOP tb lg wd hh fp fq sl w) := by
 have g18_ := gfv 18
 have g19_ := gfv 19
 have g20_ := gfv 20
 have g21_ := gfv 21
 have g22_ := gfv 22
 have g23_ := gfv 23
 have g24_ := gfv 24
 have gr3 : 0 ≤ r3 ∧ r3 ≤ 2 := by omega
 have gr4 : 0 ≤ r4 ∧ r4 ≤ 3 := by omega
 have gtb : 0 ≤ tb ∧ tb ≤ 49 := by omega
 have gsl : 0 ≤ sl ∧ sl ≤ 20 := by omega
 have ghf : 0 ≤ hf ∧ hf ≤ 160 := by omega
 refine calls_fr Try.func25 Try.ntmps25 rfl rfl fun g hg => ?_
 have k0 : g 0 = .agg #[.int .u8 ((fv 0)), .int .u8 ((fv 1)), .int .u8 ((fv 2)), .int .u8 ((fv 3)), .int .u8 ((fv 4)), .int .u8 ((fv 5)), .int .u8 ((fv 6)), .int .u8 ((fv 7)), .int .u8 ((fv 8)), .int .u8 ((fv 9)), .int .u8 ((fv 10)), .int .u8 ((fv 11)), .int .u8 ((fv 12)), .int .u8 ((fv 13)), .int .u8 ((fv 14)), .int .u8 ((fv 15)), .int .u8 ((fv 16)), .int .u8 ((fv 17)), .int .u8 ((fv 18)), .int .u8 ((fv 19)), .int .u8 ((fv 20)), .int .u8 ((fv 21)), .int .u8 ((fv 22)), .int .u8 ((fv 23)), .int .u8 ((fv 24))] := hg 0
 have k1 : g 1 = .int .i64 mo := hg 1
 clear hg
 have fB0 : Below w.heap.size w w := Below.refl _ _
 refine wp_seq_k fun K1 hK1 => ?_
 refine region_dk 2 [(2, 0), (4, 1)] [[], []] (rel [bx 0 #[.int .u8 ((fv 0)), .int .u8 ((fv 1)), .int .u8 ((fv 2)), .int .u8 ((fv 3)), .int .u8 ((fv 4)), .int .u8 ((fv 5)), .int .u8 ((fv 6)), .int .u8 ((fv 7)), .int .u8 ((fv 8)), .int .u8 ((fv 9)), .int .u8 ((fv 10)), .int .u8 ((fv 11)), .int .u8 ((fv 12)), .int .u8 ((fv 13)), .int .u8 ((fv 14)), .int .u8 ((fv 15)), .int .u8 ((fv 16)), .int .u8 ((fv 17)), .int .u8 ((fv 18)), .int .u8 ((fv 19)), .int .u8 ((fv 20)), .int .u8 ((fv 21)), .int .u8 ((fv 22)), .int .u8 ((fv 23)), .int .u8 ((fv 24))] 81,
   bx 1 #[.int .i64 0, .slice (none) (0) (0), .int .i64 0, .slice (none) (0) (0), .slice (none) (0) (0), .int .i64 0, .bool false] 57])
  ⟨bx_k, bx_k, trivial⟩
  ⟨fun f s W c d h i j a => opb rfl rfl (by simp [go_sem, a.e 0 k0]),
  fun f s W c d h i j a => opb rfl rfl (by simp [go_sem]), trivial⟩ ?_
 intro f1 s1 W1 hB1 g1 hg1
 have fB1 := hB1.f fB0
 have z1 := hB1.below.size
 obtain ⟨r1_0, br1_0⟩ := hB1.is 0
 have lr1_0 := hB1.lr 0 br1_0
 obtain ⟨r1_1, br1_1⟩ := hB1.is 1
 have lr1_1 := hB1.lr 1 br1_1
 have ne1_0_1 := hB1.nb 0 1
 refine hK1 _ _ ?_
 have k1_1 := kt hg1 1 k1
 have k1_2 := kt hg1 2 r1_0
 have k1_4 := kt hg1 4 r1_1
 refine wp_seq_k fun K2 hK2 => ?_
 refine region_dk 3 [(9, 0), (10, 1), (5, 2)] [[], [0], [], [0, 1, 2]] (rel [is (.pointer (some ⟨(s1 0), 18, none⟩)),
   is (.agg #[.int .u8 ((fv 18)), .int .u8 ((fv 19)), .int .u8 ((fv 20)), .int .u8 ((fv 21)), .int .u8 ((fv 22)), .int .u8 ((fv 23)), .int .u8 ((fv 24))]),
   bx 2 #[.int .u8 0, .int .u8 0, .int .u8 0, .int .u8 0, .int .u8 0, .int .u8 0, .int .u8 0] 22])
  ⟨is_k, is_k, bx_k, trivial⟩
  ⟨fun f s W c d h i j a => opv rfl rfl (by simp [go_sem, a.e 2 k1_2]) rfl,
  fun f s W c d h i j a => opv rfl rfl (by simp [go_sem, a.e 9 (d 0 rfl), cb br1_0 c 18, cb br1_0 c 19, cb br1_0 c 20, cb br1_0 c 21, cb br1_0 c 22, cb br1_0 c 23, cb br1_0 c 24]) rfl,
  fun f s W c d h i j a => opb rfl rfl (by simp [go_sem]), trivial⟩ ?_
 intro f2 s2 W2 hB2 g2 hg2
 have fB2 := hB2.f fB1
 have z2 := hB2.below.size
 have b2_0 := hB2.b br1_0
 have b2_1 := hB2.b br1_1
 obtain ⟨r2_2, br2_2⟩ := hB2.is 2
 have lr2_2 := hB2.lr 2 br2_2
 have k2_1 := kt hg2 1 k1_1
 have k2_4 := kt hg2 4 k1_4
 have k2_10 := kt hg2 10 (hB2.is 1)
 have k2_5 := kt hg2 5 r2_2
 obtain ⟨W3, hW3⟩ : ∃ W', W' = W2.setRow (s2 2) #[.int .u8 ((fv 18)), .int .u8 ((fv 19)), .int .u8 ((fv 20)), .int .u8 ((fv 21)), .int .u8 ((fv 22)), .int .u8 ((fv 23)), .int .u8 ((fv 24))] := ⟨_, rfl⟩
 refine tail_skip (o := _) rfl ⟨rfl, rfl⟩ (run_seg hW3 (fr_ev k2_5) (fr_ev k2_10) br2_2 rfl rfl rfl rfl) ?_
 obtain ⟨fB3, nb3, ot3, z3⟩ := seg_facts hW3 fB2 br2_2 (by omega)
 clear hW3
 have b3_0 := ot3 _ _ (by omega) b2_0
 have b3_1 := ot3 _ _ (by omega) b2_1
 refine wpOps_end ?_
 refine hK2 _ _ ?_
 refine wp_seq_k fun K3 hK3 => ?_
 refine region_dk 25 [(11, 0), (12, 1), (13, 2), (14, 3), (15, 4), (16, 5), (17, 6), (18, 7), (19, 8), (20, 9), (21, 10), (22, 11), (23, 12), (24, 13), (25, 14), (26, 15), (27, 16), (28, 17), (29, 18), (30, 19), (31, 20), (32, 21), (6, 22), (7, 23), (8, 24)] [[], [0], [0, 1], [0, 1, 2], [], [0, 1, 2, 3, 4], [], [6], [6, 7], [6, 7, 8], [], [6, 7, 8, 9, 10], [], [12], [12, 13], [12, 13, 14], [12, 13, 14, 15], [], [17], [17, 18], [17, 18, 19], [12, 13, 14, 15, 16, 17, 18, 19, 20], [0, 1, 2, 3, 4, 5], [0, 1, 2, 3, 4, 5, 6, 7, 8, 9, 10, 11, 22], [0, 1, 2, 3, 4, 5, 6, 7, 8, 9, 10, 11, 12, 13, 14, 15, 16, 17, 18, 19, 20, 21, 22, 23]] (rel [is (.pointer (some ⟨(s2 2), 0, none⟩)),
   is (.int .u8 ((fv 18))),
   is (.int .i64 ((fv 18))),
   is (.int .i64 (60 + (fv 18))),
   is (.int .i64 mo),
   is (.int .i64 ((60 + (fv 18)) + mo)),
   is (.pointer (some ⟨(s2 2), 1, none⟩)),
   is (.int .u8 ((fv 19))),
   is (.int .i64 ((fv 19))),
   is (.int .i64 (50 + (fv 19))),
   is (.int .i64 mo),
   is (.int .i64 ((50 + (fv 19)) + mo)),
   is (.pointer (some ⟨(s2 2), 1, none⟩)),
   is (.int .u8 ((fv 19))),
   is (.int .i64 ((fv 19))),
   is (.int .i64 (50 + (fv 19))),
   is (.int .i64 hf),
   is (.pointer (some ⟨(s2 2), 4, none⟩)),
   is (.int .u8 ((fv 22))),
   is (.int .i64 ((fv 22))),
   is (.int .i64 r3),
   is (.int .i64 (hf + r3)),
   is (.int .i64 ((60 + (fv 18)) + mo)),
   is (.int .i64 ((50 + (fv 19)) + mo)),
   is (.int .i64 (hf + r3))])
  ⟨is_k, is_k, is_k, is_k, is_k, is_k, is_k, is_k, is_k, is_k, is_k, is_k, is_k, is_k, is_k, is_k, is_k, is_k, is_k, is_k, is_k, is_k, is_k, is_k, is_k, trivial⟩
  ⟨fun f s W c d h i j a => opv rfl rfl (by simp [go_sem, a.e 5 k2_5]) rfl,
  fun f s W c d h i j a => opv rfl rfl (by simp [go_sem, a.e 11 (d 0 rfl), cb nb3 c 0]) rfl,
  fun f s W c d h i j a => by have gf_ := gfv 18; have cv_ := IntWalk.i64_in (fv 18) (by omega); exact opv rfl rfl (by simp [go_sem, a.e 12 (d 1 rfl), cv_]) rfl,
  fun f s W c d h i j a => opv rfl rfl (by simp [go_sem, a.e 13 (d 2 rfl), IntWalk.i64_in (60 + (fv 18)) (by omega)]) rfl,
  fun f s W c d h i j a => opv rfl rfl (by simp [go_sem, a.e 1 k2_1]) rfl,
  fun f s W c d h i j a => opv rfl rfl (by simp [go_sem, a.e 14 (d 3 rfl), a.e 15 (d 4 rfl), IntWalk.i64_in ((60 + (fv 18)) + mo) (by omega)]) rfl,
  fun f s W c d h i j a => opv rfl rfl (by simp [go_sem, a.e 5 k2_5]) rfl,
  fun f s W c d h i j a => opv rfl rfl (by simp [go_sem, a.e 17 (d 6 rfl), cb nb3 c 1]) rfl,
  fun f s W c d h i j a => by have gf_ := gfv 19; have cv_ := IntWalk.i64_in (fv 19) (by omega); exact opv rfl rfl (by simp [go_sem, a.e 18 (d 7 rfl), cv_]) rfl,
  fun f s W c d h i j a => opv rfl rfl (by simp [go_sem, a.e 19 (d 8 rfl), IntWalk.i64_in (50 + (fv 19)) (by omega)]) rfl,
  fun f s W c d h i j a => opv rfl rfl (by simp [go_sem, a.e 1 k2_1]) rfl,
  fun f s W c d h i j a => opv rfl rfl (by simp [go_sem, a.e 20 (d 9 rfl), a.e 21 (d 10 rfl), IntWalk.i64_in ((50 + (fv 19)) + mo) (by omega)]) rfl,
  fun f s W c d h i j a => opv rfl rfl (by simp [go_sem, a.e 5 k2_5]) rfl,
  fun f s W c d h i j a => opv rfl rfl (by simp [go_sem, a.e 23 (d 12 rfl), cb nb3 c 1]) rfl,
  fun f s W c d h i j a => by have gf_ := gfv 19; have cv_ := IntWalk.i64_in (fv 19) (by omega); exact opv rfl rfl (by simp [go_sem, a.e 24 (d 13 rfl), cv_]) rfl,
  fun f s W c d h i j a => opv rfl rfl (by simp [go_sem, a.e 25 (d 14 rfl), IntWalk.i64_in (50 + (fv 19)) (by omega)]) rfl,
  fun f s W c d h i j a => by have qu_ : (50 + (fv 19)).tdiv 2 = hf := (Int.tdiv_eq_ediv_of_nonneg (by omega)).trans hhf; have qw_ := IntWalk.i64_in (hf) (by omega); exact opv rfl rfl (by simp [go_sem, a.e 26 (d 15 rfl), qu_, qw_]) rfl,
  fun f s W c d h i j a => opv rfl rfl (by simp [go_sem, a.e 5 k2_5]) rfl,
  fun f s W c d h i j a => opv rfl rfl (by simp [go_sem, a.e 28 (d 17 rfl), cb nb3 c 4]) rfl,
  fun f s W c d h i j a => by have gf_ := gfv 22; have cv_ := IntWalk.i64_in (fv 22) (by omega); exact opv rfl rfl (by simp [go_sem, a.e 29 (d 18 rfl), cv_]) rfl,
  fun f s W c d h i j a => by have gf_ := gfv 22; have qu_ : ((fv 22)).tmod 3 = r3 := (Int.tmod_eq_emod_of_nonneg (by omega)).trans hr3; have qw_ := IntWalk.i64_in (r3) (by omega); exact opv rfl rfl (by simp [go_sem, a.e 30 (d 19 rfl), qu_, qw_]) rfl,
  fun f s W c d h i j a => opv rfl rfl (by simp [go_sem, a.e 27 (d 16 rfl), a.e 31 (d 20 rfl), IntWalk.i64_in (hf + r3) (by omega)]) rfl,
  fun f s W c d h i j a => opv rfl rfl (by simp [go_sem, a.e 16 (d 5 rfl)]) rfl,
  fun f s W c d h i j a => opv rfl rfl (by simp [go_sem, a.e 22 (d 11 rfl)]) rfl,
  fun f s W c d h i j a => opv rfl rfl (by simp [go_sem, a.e 32 (d 21 rfl)]) rfl, trivial⟩ ?_
 intro f4 s4 W4 hB4 g4 hg4
 have fB4 := hB4.f fB3
 have z4 := hB4.below.size
 have b4_0 := hB4.b b3_0
 have b4_1 := hB4.b b3_1
 have b4_2 := hB4.b nb3
 refine hK3 _ _ ?_
 have k4_1 := kt hg4 1 k2_1
 have k4_4 := kt hg4 4 k2_4
 have k4_5 := kt hg4 5 k2_5
 have k4_6 := kt hg4 6 (hB4.is 22)
 have k4_7 := kt hg4 7 (hB4.is 23)
 have k4_8 := kt hg4 8 (hB4.is 24)
 have nk6_ : g4 6 = .int .i64 lg := k4_6.trans (by rw [hlg])
 have nk7_ : g4 7 = .int .i64 wd := k4_7.trans (by rw [hwd])
 have nk8_ : g4 8 = .int .i64 fp := k4_8.trans (by rw [hfp])
 refine wp_seq_k fun K4 hK4 => ?_
 refine region_dk 31 [(33, 0), (34, 1), (35, 2), (36, 3), (37, 4), (38, 5), (39, 6), (40, 7), (41, 8), (42, 9), (43, 10), (44, 11), (45, 12), (46, 13), (47, 14), (48, 15), (49, 16), (50, 17), (51, 18), (52, 19), (53, 20), (54, 21), (55, 22), (56, 23), (57, 24), (58, 25), (59, 26), (60, 27), (61, 28), (62, 29), (63, 30)] [[], [0], [0, 1], [0, 1, 2], [], [], [], [], [4, 5, 6, 7], [], [9], [9, 10], [9, 10, 11], [], [9, 10, 11, 12, 13], [], [], [15, 16], [], [], [], [20], [20, 21], [20, 21, 22], [19, 20, 21, 22, 23], [18, 19, 20, 21, 22, 23, 24], [], [26], [26, 27], [26, 27, 28], [0, 1, 2, 3, 4, 5, 6, 7, 8, 9, 10, 11, 12, 13, 14, 15, 16, 17, 18, 19, 20, 21, 22, 23, 24, 25, 26, 27, 28, 29], [0, 1, 2, 3, 4, 5, 6, 7, 8, 9, 10, 11, 12, 13, 14, 15, 16, 17, 18, 19, 20, 21, 22, 23, 24, 25, 26, 27, 28, 29, 30]] (rel [is (.pointer (some ⟨(s2 2), 2, none⟩)),
   is (.int .u8 ((fv 20))),
   is (.int .i64 ((fv 20))),
   is (.int .i64 tb),
   is (.int .i64 lg),
   is (.int .i64 wd),
   is (.int .i64 lg),
   is (.int .i64 wd),
   row 8 4 #[.int .i64 lg, .int .i64 wd, .int .i64 lg, .int .i64 wd] 3,
   is (.pointer (some ⟨(s2 2), 3, none⟩)),
   is (.int .u8 ((fv 21))),
   is (.int .i64 ((fv 21))),
   is (.int .i64 (40 + (fv 21))),
   is (.int .i64 mo),
   is (.int .i64 ((40 + (fv 21)) + mo)),
   is (.int .i64 fp),
   is (.int .i64 fp),
   row 17 2 #[.int .i64 fp, .int .i64 fp] 3,
   is (.int .i64 fp),
   is (.int .i64 fp),
   is (.pointer (some ⟨(s2 2), 5, none⟩)),
   is (.int .u8 ((fv 23))),
   is (.int .i64 ((fv 23))),
   is (.int .i64 r4),
   is (.int .i64 (fp + r4)),
   row 25 2 #[.int .i64 fp, .int .i64 (fp + r4)] 3,
   is (.pointer (some ⟨(s2 2), 6, none⟩)),
   is (.int .u8 ((fv 24))),
   is (.int .i64 ((fv 24))),
   is (.int .i64 sl),
   isS fun s => .agg #[.int .i64 tb, .slice (some ⟨(s 8), 0, none⟩) (4) (4), .int .i64 ((40 + (fv 21)) + mo), .slice (some ⟨(s 17), 0, none⟩) (2) (2), .slice (some ⟨(s 25), 0, none⟩) (2) (2), .int .i64 sl, .bool false]])
  ⟨is_k, is_k, is_k, is_k, is_k, is_k, is_k, is_k, row_k, is_k, is_k, is_k, is_k, is_k, is_k, is_k, is_k, row_k, is_k, is_k, is_k, is_k, is_k, is_k, is_k, row_k, is_k, is_k, is_k, is_k, isS_k fun s s' e => by rw [e 8 (by simp), e 17 (by simp), e 25 (by simp)], trivial⟩
  ⟨fun f s W c d h i j a => opv rfl rfl (by simp [go_sem, a.e 5 k4_5]) rfl,
  fun f s W c d h i j a => opv rfl rfl (by simp [go_sem, a.e 33 (d 0 rfl), cb b4_2 c 2]) rfl,
  fun f s W c d h i j a => by have gf_ := gfv 20; have cv_ := IntWalk.i64_in (fv 20) (by omega); exact opv rfl rfl (by simp [go_sem, a.e 34 (d 1 rfl), cv_]) rfl,
  fun f s W c d h i j a => by have gf_ := gfv 20; have qu_ : ((fv 20)).tmod 50 = tb := (Int.tmod_eq_emod_of_nonneg (by omega)).trans htb; have qw_ := IntWalk.i64_in (tb) (by omega); exact opv rfl rfl (by simp [go_sem, a.e 35 (d 2 rfl), qu_, qw_]) rfl,
  fun f s W c d h i j a => opv rfl rfl (by simp [go_sem, a.e 6 nk6_]) rfl,
  fun f s W c d h i j a => opv rfl rfl (by simp [go_sem, a.e 7 nk7_]) rfl,
  fun f s W c d h i j a => opv rfl rfl (by simp [go_sem, a.e 6 nk6_]) rfl,
  fun f s W c d h i j a => opv rfl rfl (by simp [go_sem, a.e 7 nk7_]) rfl,
  fun f s W c d h i j a => opr rfl rfl (by simp [go_sem, a.e 37 (d 4 rfl), a.e 38 (d 5 rfl), a.e 39 (d 6 rfl), a.e 40 (d 7 rfl)]),
  fun f s W c d h i j a => opv rfl rfl (by simp [go_sem, a.e 5 k4_5]) rfl,
  fun f s W c d h i j a => opv rfl rfl (by simp [go_sem, a.e 42 (d 9 rfl), cb b4_2 c 3]) rfl,
  fun f s W c d h i j a => by have gf_ := gfv 21; have cv_ := IntWalk.i64_in (fv 21) (by omega); exact opv rfl rfl (by simp [go_sem, a.e 43 (d 10 rfl), cv_]) rfl,
  fun f s W c d h i j a => opv rfl rfl (by simp [go_sem, a.e 44 (d 11 rfl), IntWalk.i64_in (40 + (fv 21)) (by omega)]) rfl,
  fun f s W c d h i j a => opv rfl rfl (by simp [go_sem, a.e 1 k4_1]) rfl,
  fun f s W c d h i j a => opv rfl rfl (by simp [go_sem, a.e 45 (d 12 rfl), a.e 46 (d 13 rfl), IntWalk.i64_in ((40 + (fv 21)) + mo) (by omega)]) rfl,
  fun f s W c d h i j a => opv rfl rfl (by simp [go_sem, a.e 8 nk8_]) rfl,
  fun f s W c d h i j a => opv rfl rfl (by simp [go_sem, a.e 8 nk8_]) rfl,
  fun f s W c d h i j a => opr rfl rfl (by simp [go_sem, a.e 48 (d 15 rfl), a.e 49 (d 16 rfl)]),
  fun f s W c d h i j a => opv rfl rfl (by simp [go_sem, a.e 8 nk8_]) rfl,
  fun f s W c d h i j a => opv rfl rfl (by simp [go_sem, a.e 8 nk8_]) rfl,
  fun f s W c d h i j a => opv rfl rfl (by simp [go_sem, a.e 5 k4_5]) rfl,
  fun f s W c d h i j a => opv rfl rfl (by simp [go_sem, a.e 53 (d 20 rfl), cb b4_2 c 5]) rfl,
  fun f s W c d h i j a => by have gf_ := gfv 23; have cv_ := IntWalk.i64_in (fv 23) (by omega); exact opv rfl rfl (by simp [go_sem, a.e 54 (d 21 rfl), cv_]) rfl,
  fun f s W c d h i j a => by have gf_ := gfv 23; have qu_ : ((fv 23)).tmod 4 = r4 := (Int.tmod_eq_emod_of_nonneg (by omega)).trans hr4; have qw_ := IntWalk.i64_in (r4) (by omega); exact opv rfl rfl (by simp [go_sem, a.e 55 (d 22 rfl), qu_, qw_]) rfl,
  fun f s W c d h i j a => opv rfl rfl (by simp [go_sem, a.e 52 (d 19 rfl), a.e 56 (d 23 rfl), IntWalk.i64_in (fp + r4) (by omega)]) rfl,
  fun f s W c d h i j a => opr rfl rfl (by simp [go_sem, a.e 51 (d 18 rfl), a.e 57 (d 24 rfl)]),
  fun f s W c d h i j a => opv rfl rfl (by simp [go_sem, a.e 5 k4_5]) rfl,
  fun f s W c d h i j a => opv rfl rfl (by simp [go_sem, a.e 59 (d 26 rfl), cb b4_2 c 6]) rfl,
  fun f s W c d h i j a => by have gf_ := gfv 24; have cv_ := IntWalk.i64_in (fv 24) (by omega); exact opv rfl rfl (by simp [go_sem, a.e 60 (d 27 rfl), cv_]) rfl,
  fun f s W c d h i j a => by have gf_ := gfv 24; have qu_ : ((fv 24)).tmod 21 = sl := (Int.tmod_eq_emod_of_nonneg (by omega)).trans hsl; have qw_ := IntWalk.i64_in (sl) (by omega); exact opv rfl rfl (by simp [go_sem, a.e 61 (d 28 rfl), qu_, qw_]) rfl,
  fun f s W c d h i j a => opv rfl rfl (by simp [go_sem, a.e 36 (d 3 rfl), a.e 41 (d 8 rfl).1, a.e 47 (d 14 rfl), a.e 50 (d 17 rfl).1, a.e 58 (d 25 rfl).1, a.e 62 (d 29 rfl), upd]) rfl, trivial⟩ ?_
 intro f5 s5 W5 hB5 g5 hg5
 have fB5 := hB5.f fB4
 have z5 := hB5.below.size
 have b5_0 := hB5.b b4_0
 have b5_1 := hB5.b b4_1
 have b5_2 := hB5.b b4_2
 obtain ⟨r5_8, br5_8⟩ := hB5.is 8
 have lr5_8 := hB5.lr 8 br5_8
 obtain ⟨r5_17, br5_17⟩ := hB5.is 17
 have lr5_17 := hB5.lr 17 br5_17
 obtain ⟨r5_25, br5_25⟩ := hB5.is 25
 have lr5_25 := hB5.lr 25 br5_25
 have ne5_8_17 := hB5.nb 8 17
 have ne5_8_25 := hB5.nb 8 25
 have ne5_17_25 := hB5.nb 17 25
 have k5_4 := kt hg5 4 k4_4
 have k5_63 := kt hg5 63 (hB5.is 30)
 obtain ⟨W6, hW6⟩ : ∃ W', W' = W5.setRow (s1 1) #[.int .i64 tb, .slice (some ⟨(s5 8), 0, none⟩) (4) (4), .int .i64 ((40 + (fv 21)) + mo), .slice (some ⟨(s5 17), 0, none⟩) (2) (2), .slice (some ⟨(s5 25), 0, none⟩) (2) (2), .int .i64 sl, .bool false] := ⟨_, rfl⟩
 refine tail_skip (o := _) rfl ⟨rfl, rfl⟩ (run_seg hW6 (fr_ev k5_4) (fr_ev k5_63) b5_1 rfl rfl rfl rfl) ?_
 obtain ⟨fB6, nb6, ot6, z6⟩ := seg_facts hW6 fB5 b5_1 (by omega)
 clear hW6
 have b6_0 := ot6 _ _ (by omega) b5_0
 have b6_2 := ot6 _ _ (by omega) b5_2
 have b6_3 := ot6 _ _ (by omega) br5_8
 have b6_4 := ot6 _ _ (by omega) br5_17
 have b6_5 := ot6 _ _ (by omega) br5_25
 refine wpOps_end ?_
 refine hK4 _ _ ?_
 refine wp_ret ?_
 refine leave_gen (v := .agg #[.int .i64 tb, .slice (some ⟨(s5 8), 0, none⟩) (4) (4), .int .i64 ((40 + (fv 21)) + mo), .slice (some ⟨(s5 17), 0, none⟩) (2) (2), .slice (some ⟨(s5 25), 0, none⟩) (2) (2), .int .i64 sl, .bool false]) (.inr rfl) (by simp [results, Try.results25, go_sem, frv 64 k5_4, cl nb6 0, cl nb6 1, cl nb6 2, cl nb6 3, cl nb6 4, cl nb6 5, cl nb6 6]) ?_
 exact ⟨_, rfl, ⟨_, _, _, _, _, _, by rw [hhh]; rfl, ownI_lit (xs := [lg, wd, lg, wd]) (by skip; exact b6_3) (by omega) rfl rfl, ownI_lit (xs := [fp, fp]) (by skip; exact b6_4) (by omega) rfl rfl, ownI_lit (xs := [fp, fq]) (by rw [← hfq]; exact b6_5) (by omega) rfl rfl⟩, fB6⟩
end Go.Proofs.Ytnhipdbdolabkaa
namespace Go.Proofs.Ytnhipdbdolabkaa
open Go.RowKit
/-- A blank in bytes, with calipers, and how wide the spans of a wish are around it. -/
structure Sh where
  x0 : Int
  x1 : Int
  x2 : Int
  x3 : Int
  xh : Int
  y0 : Int
  y1 : Int
  y2 : Int
  y3 : Int
  xo : Bool
  ca : Int
  cb : Int
  v0 : Int
  v1 : Int
  v2 : Int
  v3 : Int
  v4 : Int
end Go.Proofs.Ytnhipdbdolabkaa
namespace Go.Proofs.Ytnhipdbdolabkaa
open Go.RowKit
end Go.Proofs.Ytnhipdbdolabkaa
namespace Go.Proofs.Ytnhipdbdolabkaa
open Go.RowKit
end Go.Proofs.Ytnhipdbdolabkaa
namespace Go.Proofs.Ytnhipdbdolabkaa
open Go.RowKit
end Go.Proofs.Ytnhipdbdolabkaa
namespace Go.Proofs.Ytnhipdbdolabkaa
open Go.RowKit
end Go.Proofs.Ytnhipdbdolabkaa
namespace Go.Proofs.Ytnhipdbdolabkaa
open Go.RowKit
def dn (n : Int) : Int := n / 1000
end Go.Proofs.Ytnhipdbdolabkaa
namespace Go.Proofs.Ytnhipdbdolabkaa
open Go.RowKit
end Go.Proofs.Ytnhipdbdolabkaa
namespace Go.Proofs.Ytnhipdbdolabkaa
open Go.RowKit
end Go.Proofs.Ytnhipdbdolabkaa
namespace Go.Proofs.Ytnhipdbdolabkaa
open Go.RowKit
end Go.Proofs.Ytnhipdbdolabkaa
namespace Go.Proofs.Ytnhipdbdolabkaa
open Go.RowKit Go.Shelf
attribute [local go_sem] Oper.semAt_some
end Go.Proofs.Ytnhipdbdolabkaa
namespace Go.Proofs.Ytnhipdbdolabkaa
open Go.RowKit
end Go.Proofs.Ytnhipdbdolabkaa
namespace Go.Proofs.Ytnhipdbdolabkaa
open Go.RowKit Go.Shelf
attribute [local go_sem] Oper.semAt_some
end Go.Proofs.Ytnhipdbdolabkaa
namespace Go.Proofs.Ytnhipdbdolabkaa
open Go.RowKit
end Go.Proofs.Ytnhipdbdolabkaa
namespace Go.Proofs.Ytnhipdbdolabkaa
open Go.RowKit
end Go.Proofs.Ytnhipdbdolabkaa
namespace Go.Proofs.Ytnhipdbdolabkaa
open Go.RowKit
end Go.Proofs.Ytnhipdbdolabkaa
namespace Go.Proofs.Ytnhipdbdolabkaa
open Go.RowKit
end Go.Proofs.Ytnhipdbdolabkaa
namespace Go.Proofs.Ytnhipdbdolabkaa
open Go.RowKit
end Go.Proofs.Ytnhipdbdolabkaa
namespace Go.Proofs.Ytnhipdbdolabkaa
open Go.RowKit
end Go.Proofs.Ytnhipdbdolabkaa
namespace Go.Proofs.Ytnhipdbdolabkaa
open Go.RowKit
end Go.Proofs.Ytnhipdbdolabkaa
namespace Go.Proofs.Ytnhipdbdolabkaa
open Go.RowKit
end Go.Proofs.Ytnhipdbdolabkaa
namespace Go.Proofs.Ytnhipdbdolabkaa
open Go.RowKit
end Go.Proofs.Ytnhipdbdolabkaa
namespace Go.Proofs.Ytnhipdbdolabkaa
open Go.RowKit
end Go.Proofs.Ytnhipdbdolabkaa
namespace Go.Proofs.Ytnhipdbdolabkaa
end Go.Proofs.Ytnhipdbdolabkaa
namespace Go.Proofs.Ytnhipdbdolabkaa
open Go.RowKit
end Go.Proofs.Ytnhipdbdolabkaa
namespace Go.Proofs.Ytnhipdbdolabkaa
end Go.Proofs.Ytnhipdbdolabkaa
namespace Go.Proofs.Ytnhipdbdolabkaa
open Go.RowKit
end Go.Proofs.Ytnhipdbdolabkaa
namespace Go.Proofs.Ytnhipdbdolabkaa
open Go.RowKit
end Go.Proofs.Ytnhipdbdolabkaa
namespace Go.Proofs.Ytnhipdbdolabkaa
end Go.Proofs.Ytnhipdbdolabkaa
namespace Go.Proofs.Ytnhipdbdolabkaa
open Go.RowKit
/-- A blank with four panels and two flaps at either end, as its numbers say. -/
theorem check_ok {tab p0 p1 p2 p3 hh t0 t1 u0 u1 sl : Int} {op : Bool} (gt : 0 ≤ tab ∧ tab ≤ 100) (gs : 0 ≤ sl ∧ sl ≤ 20) (gh : 1 ≤ hh ∧ hh ≤ 3000) (g0 : 1 ≤ p0 ∧ p0 ≤ 3000) (g1 : 1 ≤ p1 ∧ p1 ≤ 3000) (g2 : 1 ≤ p2 ∧ p2 ≤ 3000) (g3 : 1 ≤ p3 ∧ p3 ≤ 3000)
    (t0' : 0 ≤ t0 ∧ t0 ≤ 3000) (t1' : 0 ≤ t1 ∧ t1 ≤ 3000) (u0' : 0 ≤ u0 ∧ u0 ≤ 3000) (u1' : 0 ≤ u1 ∧ u1 ≤ 3000) (ho : op = true → t0 = 0 ∧ t1 = 0) : checkErr ⟨tab, [p0, p1, p2, p3], hh, [t0, t1], [u0, u1], sl, op⟩ = 0 := by
  unfold checkErr
  rw [if_neg, if_neg, if_neg]
  · simp only [Bool.and_eq_true, Bool.not_eq_true', not_and, Bool.not_eq_false, within]
    intro h
    obtain ⟨rfl, rfl⟩ := ho h
    decide
  · simp [numsOk, within, areLong]; omega
  · simp [lensOk]
end Go.Proofs.Ytnhipdbdolabkaa
namespace Go.Proofs.Ytnhipdbdolabkaa
open Go.RowKit
section
variable {P : Program} {ops : Array Oper} {Q : Exit → Act → World → Prop} {Le : World → World → Prop} {Sp : Nat → (Nat → Nat) → World → World → Prop} {R : Nat → Value → (Nat → Nat) → World → Prop} {mk : (Nat → Value) → Act}
end
end Go.Proofs.Ytnhipdbdolabkaa
namespace Go.Proofs.Ytnhipdbdolabkaa
open Go.RowKit
/-- Nothing is changed but new blocks of the kinds T; what G says of such a block's content stays said. -/
structure LeK (B : Nat) (T : TypeId → Bool) (G : TypeId → Array Value → World → Prop) (a b : World) : Prop where
  os : b.os = a.os
  tape : b.tape = a.tape
  output : b.output = a.output
  size : a.heap.size ≤ b.heap.size
  block : ∀ k x, a.heap[k]? = some x → (k < B ∨ ∀ cs t, T t = true → x ≠ .cells cs t (0, 0)) → b.heap[k]? = some x
  kind : ∀ k cs t, B ≤ k → T t = true → a.heap[k]? = some (.cells cs t (0, 0)) → ∃ cs', b.heap[k]? = some (.cells cs' t (0, 0)) ∧ cs'.size = cs.size ∧ (G t cs a → G t cs' b)
section
variable {B : Nat} {T : TypeId → Bool} {G : TypeId → Array Value → World → Prop}
end
section
variable {P : Program} {ops : Array Oper} {Q : Exit → Act → World → Prop}
end
end Go.Proofs.Ytnhipdbdolabkaa
namespace Go.Proofs.Ytnhipdbdolabkaa
open Go.RowKit
section
variable {P : Program} {ops : Array Oper} {Q : Exit → Act → World → Prop}
end
end Go.Proofs.Ytnhipdbdolabkaa
namespace Go.Proofs.Ytnhipdbdolabkaa
open Go.RowKit
theorem BoxO.low {B B' : Nat} {tb lg wd hh fp fq sl : Int} {v : Value} {W : World} (h : BoxO B tb lg wd hh fp fq sl v W) (hB : B' ≤ B) : BoxO B' tb lg wd hh fp fq sl v W := by
  obtain ⟨g1, c1, g2, c2, g3, c3, e, h1, h2, h3⟩ := h
  exact ⟨g1, c1, g2, c2, g3, c3, e, h1.low hB, h2.low hB, h3.low hB⟩
/-- The box that the bytes make, with panels and a height that are longer by some. -/
def boxB (fv : Nat → Int) (mo : Int) : Bl := ⟨fv 20 % 50, [(60 + fv 18) + mo, (50 + fv 19) + mo, (60 + fv 18) + mo, (50 + fv 19) + mo], (40 + fv 21) + mo, [(50 + fv 19) / 2 + fv 22 % 3, (50 + fv 19) / 2 + fv 22 % 3], [(50 + fv 19) / 2 + fv 22 % 3, (50 + fv 19) / 2 + fv 22 % 3 + fv 23 % 4], fv 24 % 21, false⟩
theorem boxB_ok {fv : Nat → Int} (gfv : ∀ k, 0 ≤ fv k ∧ fv k ≤ 255) {mo : Int} (hmo : 0 ≤ mo ∧ mo ≤ 1000) : checkErr (boxB fv mo) = 0 := by
  have g18 := gfv 18; have g19 := gfv 19; have g20 := gfv 20; have g21 := gfv 21; have g22 := gfv 22; have g23 := gfv 23; have g24 := gfv 24
  exact check_ok (by omega) (by omega) (by omega) (by omega) (by omega) (by omega) (by omega) (by omega) (by omega) (by omega) (by omega) nofun
theorem box_ok {fv : Nat → Int} (gfv : ∀ k, 0 ≤ fv k ∧ fv k ≤ 255) {mo : Int} (hmo : 0 ≤ mo ∧ mo ≤ 1000) (W : World) : Calls Try.prog 25 #[.agg #[.int .u8 ((fv 0)), .int .u8 ((fv 1)), .int .u8 ((fv 2)), .int .u8 ((fv 3)), .int .u8 ((fv 4)), .int .u8 ((fv 5)), .int .u8 ((fv 6)), .int .u8 ((fv 7)), .int .u8 ((fv 8)), .int .u8 ((fv 9)), .int .u8 ((fv 10)), .int .u8 ((fv 11)), .int .u8 ((fv 12)), .int .u8 ((fv 13)), .int .u8 ((fv 14)), .int .u8 ((fv 15)), .int .u8 ((fv 16)), .int .u8 ((fv 17)), .int .u8 ((fv 18)), .int .u8 ((fv 19)), .int .u8 ((fv 20)), .int .u8 ((fv 21)), .int .u8 ((fv 22)), .int .u8 ((fv 23)), .int .u8 ((fv 24))], .int .i64 mo] W (BoxOP (fv 20 % 50) ((60 + fv 18) + mo) ((50 + fv 19) + mo) ((40 + fv 21) + mo) ((50 + fv 19) / 2 + fv 22 % 3) ((50 + fv 19) / 2 + fv 22 % 3 + fv 23 % 4) (fv 24 % 21) W) :=
  pubBox_any fv mo _ _ _ _ _ _ _ _ _ _ W gfv hmo rfl rfl rfl rfl rfl rfl rfl rfl rfl rfl
end Go.Proofs.Ytnhipdbdolabkaa
namespace Go.Proofs.Ytnhipdbdolabkaa
open Go.RowKit
def docB : Bl := ⟨35, [304, 204, 304, 204], 208, [101, 101], [101, 101], 6, false⟩
theorem dv_size : checkErr docB = 0 ∧ acrossOf docB = 1051 ∧ alongOf docB = 410 := ⟨by kernel_rfl, by kernel_rfl, by kernel_rfl⟩
theorem dv_sort1 : sortI [200000, 300000, 201000] = [200000, 201000, 300000] := by simp [sortI, List.mergeSort, List.MergeSort.Internal.splitInTwo, List.merge]
theorem dv_sort2 : sortI [300000, 200000, 200000] = [200000, 200000, 300000] := by simp [sortI, List.mergeSort, List.MergeSort.Internal.splitInTwo, List.merge]
theorem dv_sort3 : sortI [301000, 201000, 202000] = [201000, 202000, 301000] := by simp [sortI, List.mergeSort, List.MergeSort.Internal.splitInTwo, List.merge]
theorem dv_holds : holdsErr docB (3000, 4000) [200, 300, 201] = 0 ∧ fitsOf docB 4000 [200, 300, 201] = false ∧ fitsOf docB 3000 [200, 300, 201] = true := by
  refine ⟨by kernel_rfl, ?_, ?_⟩
  · unfold fitsOf
    rw [show ([200, 300, 201] : List Int).map (1000 * ·) = [200000, 300000, 201000] from rfl, show roomOf docB 4000 = [300000, 200000, 200000] from by kernel_rfl, dv_sort1, dv_sort2]; rfl
  · unfold fitsOf
    rw [show ([200, 300, 201] : List Int).map (1000 * ·) = [200000, 300000, 201000] from rfl, show roomOf docB 3000 = [301000, 201000, 202000] from by kernel_rfl, dv_sort1, dv_sort3]; rfl
set_option maxRecDepth 100000 in
set_option maxHeartbeats 8000000 in
theorem pubScore_yes (w : World) :
  Calls Try.prog 15 #[] w (fun e w' => e = .returned (.bool true) ∧ Below w.heap.size w w') := by
 refine calls_fr Try.func15 Try.ntmps15 rfl rfl fun g hg => ?_
 clear hg
 have fB0 : Below w.heap.size w w := Below.refl _ _
 refine wp_seq_k fun K1 hK1 => ?_
 refine region_dk 1 [(0, 0)] [[]] (rel [is (.bool false)])
  ⟨is_k, trivial⟩
  ⟨fun f s W i j k l m a => opv rfl rfl (by simp [go_sem]) rfl, trivial⟩ ?_
 intro f1 s1 W1 hB1 g1 hg1
 have fB1 := hB1.f fB0
 have z1 := hB1.below.size
 refine hK1 _ _ ?_
 have k1_0 := kt hg1 0 (hB1.is 0)
 refine wp_seq_k fun K2 hK2 => ?_
 refine region_dk 5 [(9, 0), (10, 1), (11, 2), (12, 3), (1, 4)] [[], [], [], [0, 1, 2], [], [0, 1, 2, 3, 4]] (rel [row 0 4 #[.int .i64 304, .int .i64 204, .int .i64 304, .int .i64 204] 3,
   row 1 2 #[.int .i64 101, .int .i64 101] 3,
   row 2 2 #[.int .i64 101, .int .i64 101] 3,
   isS fun s => .agg #[.int .i64 35, .slice (some ⟨(s 0), 0, none⟩) (4) (4), .int .i64 208, .slice (some ⟨(s 1), 0, none⟩) (2) (2), .slice (some ⟨(s 2), 0, none⟩) (2) (2), .int .i64 6, .bool false],
   bx 4 #[.int .i64 0, .slice (none) (0) (0), .int .i64 0, .slice (none) (0) (0), .slice (none) (0) (0), .int .i64 0, .bool false] 57])
  ⟨row_k, row_k, row_k, isS_k fun s s' e => by rw [e 0 (by simp), e 1 (by simp), e 2 (by simp)], bx_k, trivial⟩
  ⟨fun f s W i j k l m a => opr rfl rfl (by simp [go_sem]),
  fun f s W i j k l m a => opr rfl rfl (by simp [go_sem]),
  fun f s W i j k l m a => opr rfl rfl (by simp [go_sem]),
  fun f s W i j k l m a => opv rfl rfl (by simp [go_sem, a.e 9 (j 0 rfl).1, a.e 10 (j 1 rfl).1, a.e 11 (j 2 rfl).1, upd]) rfl,
  fun f s W i j k l m a => opb rfl rfl (by simp [go_sem]), trivial⟩ ?_
 intro f2 s2 W2 hB2 g2 hg2
 have fB2 := hB2.f fB1
 have z2 := hB2.below.size
 obtain ⟨r2_0, br2_0⟩ := hB2.is 0
 have lr2_0 := hB2.lr 0 br2_0
 obtain ⟨r2_1, br2_1⟩ := hB2.is 1
 have lr2_1 := hB2.lr 1 br2_1
 obtain ⟨r2_2, br2_2⟩ := hB2.is 2
 have lr2_2 := hB2.lr 2 br2_2
 obtain ⟨r2_4, br2_4⟩ := hB2.is 4
 have lr2_4 := hB2.lr 4 br2_4
 have ne2_0_1 := hB2.nb 0 1
 have ne2_0_2 := hB2.nb 0 2
 have ne2_1_2 := hB2.nb 1 2
 have ne2_0_4 := hB2.nb 0 4
 have ne2_1_4 := hB2.nb 1 4
 have ne2_2_4 := hB2.nb 2 4
 have k2_0 := kt hg2 0 k1_0
 have k2_12 := kt hg2 12 (hB2.is 3)
 have k2_1 := kt hg2 1 r2_4
 obtain ⟨W3, hW3⟩ : ∃ W', W' = W2.setRow (s2 4) #[.int .i64 35, .slice (some ⟨(s2 0), 0, none⟩) (4) (4), .int .i64 208, .slice (some ⟨(s2 1), 0, none⟩) (2) (2), .slice (some ⟨(s2 2), 0, none⟩) (2) (2), .int .i64 6, .bool false] := ⟨_, rfl⟩
 refine tail_skip (o := _) rfl ⟨rfl, rfl⟩ (run_seg hW3 (fr_ev k2_1) (fr_ev k2_12) br2_4 rfl rfl rfl rfl) ?_
 obtain ⟨fB3, nb3, ot3, z3⟩ := seg_facts hW3 fB2 br2_4 (by omega)
 clear hW3
 have b3_0 := ot3 _ _ (by omega) br2_0
 have b3_1 := ot3 _ _ (by omega) br2_1
 have b3_2 := ot3 _ _ (by omega) br2_2
 refine wpOps_end ?_
 refine hK2 _ _ ?_
 refine wp_seq_k fun K3 hK3 => ?_
 refine region_dk 11 [(14, 0), (15, 1), (16, 2), (17, 3), (13, 4), (18, 5), (19, 6), (20, 7), (2, 8), (3, 9), (4, 10)] [[], [], [], [0, 1, 2], [0, 1, 2, 3], [0, 1, 2, 3, 4], [0, 1, 2, 3, 4], [0, 1, 2, 3, 4], [0, 1, 2, 3, 4, 5], [0, 1, 2, 3, 4, 5, 6, 8], [0, 1, 2, 3, 4, 5, 6, 7, 8, 9]] (rel [is (.agg #[.int .i64 35, .slice (some ⟨(s2 0), 0, none⟩) (4) (4), .int .i64 208, .slice (some ⟨(s2 1), 0, none⟩) (2) (2), .slice (some ⟨(s2 2), 0, none⟩) (2) (2), .int .i64 6, .bool false]),
   is (.agg #[.int .i64 3000, .int .i64 4000]),
   row 2 3 #[.int .i64 200, .int .i64 300, .int .i64 201] 3,
   is (.tuple #[.bool false, .bool true, .int .i64 0]),
   is (.tuple #[.bool false, .bool true, .int .i64 0]),
   is (.bool false),
   is (.bool true),
   is (.int .i64 0),
   is (.bool false),
   is (.bool true),
   is (.int .i64 0)])
  ⟨is_k, is_k, row_k, is_k, is_k, is_k, is_k, is_k, is_k, is_k, is_k, trivial⟩
  ⟨fun f s W i j k l m a => opv rfl rfl (by simp [go_sem, a.e 1 k2_1, cb nb3 i 0, cb nb3 i 1, cb nb3 i 2, cb nb3 i 3, cb nb3 i 4, cb nb3 i 5, cb nb3 i 6]) rfl,
  fun f s W i j k l m a => opc rfl rfl (by simp [go_sem]) (pubSpan_any (3000) (4000) W),
  fun f s W i j k l m a => opr rfl rfl (by simp [go_sem]),
  fun f s W i j k l m a => opDo_call (args := #[.agg #[.int .i64 35, .slice (some ⟨(s2 0), 0, none⟩) (4) (4), .int .i64 208, .slice (some ⟨(s2 1), 0, none⟩) (2) (2), .slice (some ⟨(s2 2), 0, none⟩) (2) (2), .int .i64 6, .bool false], .agg #[.int .i64 3000, .int .i64 4000], .slice (some ⟨(s 2), 0, none⟩) (3) (3)]) rfl rfl (by simp [go_sem, a.e 14 (j 0 rfl), a.e 15 (j 1 rfl), a.e 16 (j 2 rfl).1]) (holds_any _ docB 3000 4000 _ _ _ [200, 300, 201] W ⟨_, _, _, _, _, _, _, _, _, rfl, ii_block (xs := [304, 204, 304, 204]) (blk_below b3_0 i) rfl rfl, ii_block (xs := [101, 101]) (blk_below b3_1 i) rfl rfl, ii_block (xs := [101, 101]) (blk_below b3_2 i) rfl rfl⟩ (ii_block (xs := [200, 300, 201]) (j 2 rfl).2 rfl rfl)) ((fun e W' h => ⟨_, h.1, h.2, by show (Value.tuple #[.bool (if holdsErr docB (3000, 4000) [200, 300, 201] = 0 then fitsOf docB 4000 [200, 300, 201] else false), .bool (if holdsErr docB (3000, 4000) [200, 300, 201] = 0 then fitsOf docB 3000 [200, 300, 201] else false), .int .i64 (holdsErr docB (3000, 4000) [200, 300, 201])]) = _; rw [dv_holds.1, if_pos rfl, if_pos rfl, dv_holds.2.1, dv_holds.2.2]⟩)),
  fun f s W i j k l m a => opv rfl rfl (by simp [go_sem, a.e 17 (j 3 rfl)]) rfl,
  fun f s W i j k l m a => opv rfl rfl (by simp [go_sem, a.e 13 (j 4 rfl)]) rfl,
  fun f s W i j k l m a => opv rfl rfl (by simp [go_sem, a.e 13 (j 4 rfl)]) rfl,
  fun f s W i j k l m a => opv rfl rfl (by simp [go_sem, a.e 13 (j 4 rfl)]) rfl,
  fun f s W i j k l m a => opv rfl rfl (by simp [go_sem, a.e 18 (j 5 rfl)]) rfl,
  fun f s W i j k l m a => opv rfl rfl (by simp [go_sem, a.e 19 (j 6 rfl)]) rfl,
  fun f s W i j k l m a => opv rfl rfl (by simp [go_sem, a.e 20 (j 7 rfl)]) rfl, trivial⟩ ?_
 intro f4 s4 W4 hB4 g4 hg4
 have fB4 := hB4.f fB3
 have z4 := hB4.below.size
 have b4_0 := hB4.b b3_0
 have b4_1 := hB4.b b3_1
 have b4_2 := hB4.b b3_2
 have b4_3 := hB4.b nb3
 obtain ⟨r4_2, br4_2⟩ := hB4.is 2
 have lr4_2 := hB4.lr 2 br4_2
 refine hK3 _ _ ?_
 have k4_0 := kt hg4 0 k2_0
 have k4_1 := kt hg4 1 k2_1
 have k4_2 := kt hg4 2 (hB4.is 8)
 have k4_3 := kt hg4 3 (hB4.is 9)
 have k4_4 := kt hg4 4 (hB4.is 10)
 refine wp_seq_k fun K4 hK4 => ?_
 refine region_dk 11 [(22, 0), (23, 1), (21, 2), (24, 3), (25, 4), (26, 5), (27, 6), (5, 7), (6, 8), (7, 9), (8, 10)] [[], [0], [0, 1], [0, 1, 2], [0, 1, 2], [0, 1, 2], [0, 1, 2], [0, 1, 2, 3], [0, 1, 2, 3, 4, 7], [0, 1, 2, 3, 4, 5, 7, 8], [0, 1, 2, 3, 4, 5, 6, 7, 8, 9]] (rel [is (.agg #[.int .i64 35, .slice (some ⟨(s2 0), 0, none⟩) (4) (4), .int .i64 208, .slice (some ⟨(s2 1), 0, none⟩) (2) (2), .slice (some ⟨(s2 2), 0, none⟩) (2) (2), .int .i64 6, .bool false]),
   is (.tuple #[.int .i64 1051, .int .i64 410, .int .i64 430910, .int .i64 0]),
   is (.tuple #[.int .i64 1051, .int .i64 410, .int .i64 430910, .int .i64 0]),
   is (.int .i64 1051),
   is (.int .i64 410),
   is (.int .i64 430910),
   is (.int .i64 0),
   is (.int .i64 1051),
   is (.int .i64 410),
   is (.int .i64 430910),
   is (.int .i64 0)])
  ⟨is_k, is_k, is_k, is_k, is_k, is_k, is_k, is_k, is_k, is_k, is_k, trivial⟩
  ⟨fun f s W i j k l m a => opv rfl rfl (by simp [go_sem, a.e 1 k4_1, cb b4_3 i 0, cb b4_3 i 1, cb b4_3 i 2, cb b4_3 i 3, cb b4_3 i 4, cb b4_3 i 5, cb b4_3 i 6]) rfl,
  fun f s W i j k l m a => opDo_call (args := #[.agg #[.int .i64 35, .slice (some ⟨(s2 0), 0, none⟩) (4) (4), .int .i64 208, .slice (some ⟨(s2 1), 0, none⟩) (2) (2), .slice (some ⟨(s2 2), 0, none⟩) (2) (2), .int .i64 6, .bool false]]) rfl rfl (by simp [go_sem, a.e 22 (j 0 rfl)]) (size_any _ docB W ⟨_, _, _, _, _, _, _, _, _, rfl, ii_block (xs := [304, 204, 304, 204]) (blk_below b4_0 i) rfl rfl, ii_block (xs := [101, 101]) (blk_below b4_1 i) rfl rfl, ii_block (xs := [101, 101]) (blk_below b4_2 i) rfl rfl⟩) ((fun e W' h => ⟨_, h.1, h.2, by rw [if_pos dv_size.1, dv_size.2.1, dv_size.2.2]; rfl⟩)),
  fun f s W i j k l m a => opv rfl rfl (by simp [go_sem, a.e 23 (j 1 rfl)]) rfl,
  fun f s W i j k l m a => opv rfl rfl (by simp [go_sem, a.e 21 (j 2 rfl)]) rfl,
  fun f s W i j k l m a => opv rfl rfl (by simp [go_sem, a.e 21 (j 2 rfl)]) rfl,
  fun f s W i j k l m a => opv rfl rfl (by simp [go_sem, a.e 21 (j 2 rfl)]) rfl,
  fun f s W i j k l m a => opv rfl rfl (by simp [go_sem, a.e 21 (j 2 rfl)]) rfl,
  fun f s W i j k l m a => opv rfl rfl (by simp [go_sem, a.e 24 (j 3 rfl)]) rfl,
  fun f s W i j k l m a => opv rfl rfl (by simp [go_sem, a.e 25 (j 4 rfl)]) rfl,
  fun f s W i j k l m a => opv rfl rfl (by simp [go_sem, a.e 26 (j 5 rfl)]) rfl,
  fun f s W i j k l m a => opv rfl rfl (by simp [go_sem, a.e 27 (j 6 rfl)]) rfl, trivial⟩ ?_
 intro f5 s5 W5 hB5 g5 hg5
 have fB5 := hB5.f fB4
 have z5 := hB5.below.size
 have b5_0 := hB5.b b4_0
 have b5_1 := hB5.b b4_1
 have b5_2 := hB5.b b4_2
 have b5_3 := hB5.b b4_3
 have b5_4 := hB5.b br4_2
 refine hK4 _ _ ?_
 have k5_0 := kt hg5 0 k4_0
 have k5_2 := kt hg5 2 k4_2
 have k5_3 := kt hg5 3 k4_3
 have k5_4 := kt hg5 4 k4_4
 have k5_6 := kt hg5 6 (hB5.is 8)
 have k5_8 := kt hg5 8 (hB5.is 10)
 refine wp_seq_k fun K5 hK5 => ?_
 refine region_dk 18 [(28, 0), (29, 1), (30, 2), (31, 3), (32, 4), (33, 5), (34, 6), (35, 7), (36, 8), (37, 9), (38, 10), (39, 11), (40, 12), (41, 13), (42, 14), (43, 15), (44, 16), (0, 17)] [[], [0], [0, 1], [0, 1, 2], [0, 1, 2, 3], [0, 1, 2, 3, 4], [0, 1, 2, 3, 4, 5], [0, 1, 2, 3, 4, 5, 6], [0, 1, 2, 3, 4, 5, 6, 7], [0, 1, 2, 3, 4, 5, 6, 7, 8], [0, 1, 2, 3, 4, 5, 6, 7, 8, 9], [0, 1, 2, 3, 4, 5, 6, 7, 8, 9, 10], [0, 1, 2, 3, 4, 5, 6, 7, 8, 9, 10, 11], [0, 1, 2, 3, 4, 5, 6, 7, 8, 9, 10, 11, 12], [0, 1, 2, 3, 4, 5, 6, 7, 8, 9, 10, 11, 12, 13], [0, 1, 2, 3, 4, 5, 6, 7, 8, 9, 10, 11, 12, 13, 14], [0, 1, 2, 3, 4, 5, 6, 7, 8, 9, 10, 11, 12, 13, 14, 15], [0, 1, 2, 3, 4, 5, 6, 7, 8, 9, 10, 11, 12, 13, 14, 15, 16]] (rel [is (.int .i64 0),
   is (.bool true),
   is (.bool true),
   is (.int .i64 0),
   is (.bool true),
   is (.bool true),
   is (.bool true),
   is (.bool false),
   is (.bool true),
   is (.bool true),
   is (.bool true),
   is (.bool true),
   is (.bool true),
   is (.bool true),
   is (.int .i64 410),
   is (.bool true),
   is (.bool true),
   is (.bool true)])
  ⟨is_k, is_k, is_k, is_k, is_k, is_k, is_k, is_k, is_k, is_k, is_k, is_k, is_k, is_k, is_k, is_k, is_k, is_k, trivial⟩
  ⟨fun f s W i j k l m a => opv rfl rfl (by simp [go_sem, a.e 4 k5_4]) rfl,
  fun f s W i j k l m a => opv rfl rfl (by simp [go_sem, a.e 28 (j 0 rfl)]) rfl,
  fun f s W i j k l m a => opv rfl rfl (by simp [go_sem, a.e 29 (j 1 rfl)]) rfl,
  fun f s W i j k l m a => osure rfl rfl (a.says (d := 30) rfl rfl (j 2 rfl)) (gv (by simp [go_sem, a.e 8 k5_8]) rfl),
  fun f s W i j k l m a => osure rfl rfl (a.says (d := 30) rfl rfl (j 2 rfl)) (gv (by simp [go_sem, a.e 31 (j 3 rfl)]) rfl),
  fun f s W i j k l m a => opk (c := true) rfl rfl (fun h => absurd h (by decide)) (fun _ => by simp [go_sem, a.e 30 (j 2 rfl), a.e 32 (j 4 rfl)]),
  fun f s W i j k l m a => opv rfl rfl (by simp [go_sem, a.e 33 (j 5 rfl)]) rfl,
  fun f s W i j k l m a => osure rfl rfl (a.says (d := 34) rfl rfl (j 6 rfl)) (gv (by simp [go_sem, a.e 2 k5_2]) rfl),
  fun f s W i j k l m a => osure rfl rfl (a.says (d := 34) rfl rfl (j 6 rfl)) (gv (by simp [go_sem, a.e 35 (j 7 rfl)]) rfl),
  fun f s W i j k l m a => opk (c := true) rfl rfl (fun h => absurd h (by decide)) (fun _ => by simp [go_sem, a.e 34 (j 6 rfl), a.e 36 (j 8 rfl)]),
  fun f s W i j k l m a => opv rfl rfl (by simp [go_sem, a.e 37 (j 9 rfl)]) rfl,
  fun f s W i j k l m a => osure rfl rfl (a.says (d := 38) rfl rfl (j 10 rfl)) (gv (by simp [go_sem, a.e 3 k5_3]) rfl),
  fun f s W i j k l m a => opk (c := true) rfl rfl (fun h => absurd h (by decide)) (fun _ => by simp [go_sem, a.e 38 (j 10 rfl), a.e 39 (j 11 rfl)]),
  fun f s W i j k l m a => opv rfl rfl (by simp [go_sem, a.e 40 (j 12 rfl)]) rfl,
  fun f s W i j k l m a => osure rfl rfl (a.says (d := 41) rfl rfl (j 13 rfl)) (gv (by simp [go_sem, a.e 6 k5_6]) rfl),
  fun f s W i j k l m a => osure rfl rfl (a.says (d := 41) rfl rfl (j 13 rfl)) (gv (by simp [go_sem, a.e 42 (j 14 rfl)]) rfl),
  fun f s W i j k l m a => opk (c := true) rfl rfl (fun h => absurd h (by decide)) (fun _ => by simp [go_sem, a.e 41 (j 13 rfl), a.e 43 (j 15 rfl)]),
  fun f s W i j k l m a => opv rfl rfl (by simp [go_sem, a.e 44 (j 16 rfl)]) rfl, trivial⟩ ?_
 intro f6 s6 W6 hB6 g6 hg6
 have fB6 := hB6.f fB5
 have z6 := hB6.below.size
 have b6_0 := hB6.b b5_0
 have b6_1 := hB6.b b5_1
 have b6_2 := hB6.b b5_2
 have b6_3 := hB6.b b5_3
 have b6_4 := hB6.b b5_4
 refine hK5 _ _ ?_
 have k6_0 := kt hg6 0 (hB6.is 17)
 refine wp_ret ?_
 refine leave_one (N := 45) (v := .bool true) (.inr rfl) Try.results15 rfl k6_0 ?_
 exact ⟨rfl, fB6⟩
end Go.Proofs.Ytnhipdbdolabkaa
