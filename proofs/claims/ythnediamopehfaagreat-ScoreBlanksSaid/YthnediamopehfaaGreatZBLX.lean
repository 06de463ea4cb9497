/- Part of the proof: what the claim leans on. -/
import Derived.Test.YthnediamopehfaaGreatZAA
import Derived.Test.YthnediamopehfaaGreatZAB
import Derived.Test.YthnediamopehfaaGreatZAC
import Derived.Test.YthnediamopehfaaGreatZAD
import Derived.Test.YthnediamopehfaaGreatZAE
import Derived.Test.YthnediamopehfaaGreatZAF
import Derived.Test.YthnediamopehfaaGreatZAG
import Derived.Test.YthnediamopehfaaGreatZAH
import Derived.Test.YthnediamopehfaaGreatZAI
import Derived.Test.YthnediamopehfaaGreatZAJ
import Derived.Test.YthnediamopehfaaGreatZAK
import Derived.Test.YthnediamopehfaaGreatZAL
import Derived.Test.YthnediamopehfaaGreatZAM
import Derived.Test.YthnediamopehfaaGreatZAN
import Derived.Test.YthnediamopehfaaGreatZAO
import Derived.Test.YthnediamopehfaaGreatZAP
import Derived.Test.YthnediamopehfaaGreatZAQ
import Derived.Test.YthnediamopehfaaGreatZAR
import Derived.Test.YthnediamopehfaaGreatZAS
import Derived.Test.YthnediamopehfaaGreatZAT
import Derived.Test.YthnediamopehfaaGreatZAU
import Derived.Test.YthnediamopehfaaGreatZAV
import Derived.Test.YthnediamopehfaaGreatZAW
import Derived.Test.YthnediamopehfaaGreatZAX
import Derived.Test.YthnediamopehfaaGreatZAY
import Derived.Test.YthnediamopehfaaGreatZKnown
import Derived.Lib.SmallJoins
import Derived.Laws.CopyRow
import Derived.Laws.CopyOwn
set_option linter.unusedSimpArgs false
set_option linter.unusedVariables false
namespace Go.Proofs.YthnediamopehfaaGreat
open Go.RowKit
section
variable {P : Program} {ops : Array Oper} {Q : Exit → Act → World → Prop}
end
/-- What an operation made lies apart from the block that another one began with. -/
theorem Behind.off {R : Nat → Value → (Nat → Nat) → World → Prop} {w : World} {n : Nat} {f : Nat → Value} {s : Nat → Nat} {W : World} (h : Behind R w n f s W) (i j : Nat) (hi : i < n) (hj : j < n) (hij : i ≠ j) {g : Nat}
    (hg : s i ≤ g) (h1 : ∀ W, R i (f i) s W → g < W.heap.size) (h2 : ∀ v s W, R j v s W → s j < W.heap.size) : g ≠ s j := by
  obtain ⟨t, ht, hd⟩ := h.apart
  obtain ⟨a, b, W1, r1, z1⟩ := ht i hi
  obtain ⟨c, d, W2, r2, z2⟩ := ht j hj
  have := h1 _ r1; have := h2 _ _ _ r2
  have := hd i j hi hj hij
  omega
end Go.Proofs.YthnediamopehfaaGreat
namespace Go.Proofs.YthnediamopehfaaGreat
open Go.RowKit
theorem BlankP.bad {z : Bl} {c er : Int} {w w' : World} {e : Ending} (h : er ≠ 0) (he : e = .returned (.tuple #[zeroBl, .int .i64 c, .int .i64 er])) (hb : Below w.heap.size w w') : BlankP (z, c, er) w e w' := ⟨fun h' => absurd h' h, fun _ => ⟨he, hb⟩⟩
set_option maxRecDepth 100000 in
set_option maxHeartbeats 1000000 in
theorem blank_bad (l1 h1 l2 h2 l3 h3 l4 h4 l5 h5 clo chi : Int) (wo : Bool) (tab : Int) (w : World) (hbad : (wishErr ⟨(l1, h1), (l2, h2), (l3, h3), (l4, h4), (l5, h5), wo⟩ == 0) = true → (checkedErr [] [(clo, chi)] != 0) = false → (!(within 0 100 [tab])) = true) :
  Calls Tryz.prog 28 #[.agg #[.int .i64 l1, .int .i64 h1, .int .i64 l2, .int .i64 h2, .int .i64 l3, .int .i64 h3, .int .i64 l4, .int .i64 h4, .int .i64 l5, .int .i64 h5, .bool wo], .agg #[.int .i64 clo, .int .i64 chi], .int .i64 tab] w (BlankP (blankAll ⟨(l1, h1), (l2, h2), (l3, h3), (l4, h4), (l5, h5), wo⟩ clo chi tab) w) := by
 refine calls_fr Tryz.func28 Tryz.ntmps28 rfl rfl fun g hg => ?_
 have k0 : g 0 = .agg #[.int .i64 l1, .int .i64 h1, .int .i64 l2, .int .i64 h2, .int .i64 l3, .int .i64 h3, .int .i64 l4, .int .i64 h4, .int .i64 l5, .int .i64 h5, .bool wo] := hg 0
 have k1 : g 1 = .agg #[.int .i64 clo, .int .i64 chi] := hg 1
 have k2 : g 2 = .int .i64 tab := hg 2
 clear hg
 have fB0 : Below w.heap.size w w := Below.refl _ _
 refine wp_seq_k fun K1 hK1 => ?_
 refine region_dk 5 [(3, 0), (4, 1), (6, 2), (7, 3), (8, 4)] [[], [], [], [], [3]] (rel [bx 0 #[.int .i64 l1, .int .i64 h1, .int .i64 l2, .int .i64 h2, .int .i64 l3, .int .i64 h3, .int .i64 l4, .int .i64 h4, .int .i64 l5, .int .i64 h5, .bool wo] 43,
   bx 1 #[.int .i64 clo, .int .i64 chi] 26,
   bx 2 #[.int .i64 0, .slice (none) (0) (0), .int .i64 0, .slice (none) (0) (0), .slice (none) (0) (0), .int .i64 0, .bool false] 24,
   is (.int .i64 0),
   is (.int .i64 0)])
  ⟨bx_k, bx_k, bx_k, is_k, is_k, trivial⟩
  ⟨fun f s W c d hs i j a => opb rfl rfl (by simp [go_sem, a.e 0 k0]),
  fun f s W c d hs i j a => opb rfl rfl (by simp [go_sem, a.e 1 k1]),
  fun f s W c d hs i j a => opb rfl rfl (by simp [go_sem]),
  fun f s W c d hs i j a => opv rfl rfl (by simp [go_sem]) rfl,
  fun f s W c d hs i j a => opv rfl rfl (by simp [go_sem]) rfl, trivial⟩ ?_
 intro f1 s1 W1 hB1 g1 hg1
 have fB1 := hB1.f fB0
 have z1 := hB1.below.size
 obtain ⟨r1_0, br1_0⟩ := hB1.is 0
 have lr1_0 := hB1.lr 0 br1_0
 obtain ⟨r1_1, br1_1⟩ := hB1.is 1
 have lr1_1 := hB1.lr 1 br1_1
 obtain ⟨r1_2, br1_2⟩ := hB1.is 2
 have lr1_2 := hB1.lr 2 br1_2
 have ne1_0_1 : s1 0 ≠ s1 1 := hB1.ne 0 1 (by decide) (by decide) (by decide) (fun _ _ _ h => lt_of_blk h.2) (fun _ _ _ h => lt_of_blk h.2)
 have ne1_0_2 : s1 0 ≠ s1 2 := hB1.ne 0 2 (by decide) (by decide) (by decide) (fun _ _ _ h => lt_of_blk h.2) (fun _ _ _ h => lt_of_blk h.2)
 have ne1_1_2 : s1 1 ≠ s1 2 := hB1.ne 1 2 (by decide) (by decide) (by decide) (fun _ _ _ h => lt_of_blk h.2) (fun _ _ _ h => lt_of_blk h.2)
 refine hK1 _ _ ?_
 have k1_2 := kt hg1 2 k2
 have k1_3 := kt hg1 3 r1_0
 have k1_4 := kt hg1 4 r1_1
 have k1_6 := kt hg1 6 r1_2
 have k1_7 := kt hg1 7 (hB1.is 3)
 have k1_8 := kt hg1 8 (hB1.is 4)
 refine wp_seq_k fun K2 hK2 => ?_
 refine region_dk 3 [(9, 0), (10, 1), (8, 2)] [[], [0], [0, 1]] (rel [is (.agg #[.int .i64 l1, .int .i64 h1, .int .i64 l2, .int .i64 h2, .int .i64 l3, .int .i64 h3, .int .i64 l4, .int .i64 h4, .int .i64 l5, .int .i64 h5, .bool wo]),
   is (.int .i64 (wishErr ⟨(l1, h1), (l2, h2), (l3, h3), (l4, h4), (l5, h5), wo⟩)),
   is (.int .i64 (wishErr ⟨(l1, h1), (l2, h2), (l3, h3), (l4, h4), (l5, h5), wo⟩))])
  ⟨is_k, is_k, is_k, trivial⟩
  ⟨fun f s W c d hs i j a => opv rfl rfl (by simp [go_sem, a.e 3 k1_3, cb br1_0 c 0, cb br1_0 c 1, cb br1_0 c 2, cb br1_0 c 3, cb br1_0 c 4, cb br1_0 c 5, cb br1_0 c 6, cb br1_0 c 7, cb br1_0 c 8, cb br1_0 c 9, cb br1_0 c 10]) rfl,
  fun f s W c d hs i j a => opc rfl rfl (by simp [go_sem, a.e 9 (d 0 rfl)]) (wish_any l1 h1 l2 h2 l3 h3 l4 h4 l5 h5 wo W),
  fun f s W c d hs i j a => opv rfl rfl (by simp [go_sem, a.e 10 (d 1 rfl)]) rfl, trivial⟩ ?_
 intro f2 s2 W2 hB2 g2 hg2
 have fB2 := hB2.f fB1
 have z2 := hB2.below.size
 have b2_0 := hB2.b br1_0
 have b2_1 := hB2.b br1_1
 have b2_2 := hB2.b br1_2
 refine hK2 _ _ ?_
 have k2_2 := kt hg2 2 k1_2
 have k2_3 := kt hg2 3 k1_3
 have k2_4 := kt hg2 4 k1_4
 have k2_6 := kt hg2 6 k1_6
 have k2_7 := kt hg2 7 k1_7
 have k2_8 := kt hg2 8 (hB2.is 2)
 refine wp_seq_k fun K3 hK3 => ?_
 refine wp_seq_k fun K4 hK4 => ?_
 refine region_dk 2 [(11, 0), (12, 1)] [[], [0]] (rel [is (.int .i64 (wishErr ⟨(l1, h1), (l2, h2), (l3, h3), (l4, h4), (l5, h5), wo⟩)),
   is (.bool ((wishErr ⟨(l1, h1), (l2, h2), (l3, h3), (l4, h4), (l5, h5), wo⟩) == 0))])
  ⟨is_k, is_k, trivial⟩
  ⟨fun f s W c d hs i j a => opv rfl rfl (by simp [go_sem, a.e 8 k2_8]) rfl,
  fun f s W c d hs i j a => opv rfl rfl (by simp [go_sem, a.e 11 (d 0 rfl)]) rfl, trivial⟩ ?_
 intro f3 s3 W3 hB3 g3 hg3
 have fB3 := hB3.f fB2
 have z3 := hB3.below.size
 have b3_0 := hB3.b b2_0
 have b3_1 := hB3.b b2_1
 have b3_2 := hB3.b b2_2
 refine hK4 _ _ ?_
 have k3_2 := kt hg3 2 k2_2
 have k3_3 := kt hg3 3 k2_3
 have k3_4 := kt hg3 4 k2_4
 have k3_6 := kt hg3 6 k2_6
 have k3_7 := kt hg3 7 k2_7
 have k3_8 := kt hg3 8 k2_8
 have k3_12 := kt hg3 12 (hB3.is 1)
 refine wp_cond_split (t := (wishErr ⟨(l1, h1), (l2, h2), (l3, h3), (l4, h4), (l5, h5), wo⟩) == 0) ((fr_eval rfl).trans k3_12) (fun hc5 => ?_) (fun hc5 => ?_)
 ·
  have hc5' := hc5; try simp only [ba] at hc5'
  refine region_dk 4 [(13, 0), (14, 1), (15, 2), (8, 3)] [[], [0], [0, 1], [0, 1, 2]] (rel [is (.agg #[.int .i64 clo, .int .i64 chi]),
   row 1 1 #[.int .i64 clo, .int .i64 chi] 26,
   is (.int .i64 (checkedErr [] [(clo, chi)])),
   is (.int .i64 (checkedErr [] [(clo, chi)]))])
   ⟨is_k, row_k, is_k, is_k, trivial⟩
   ⟨fun f s W c d hs i j a => opv rfl rfl (by simp [go_sem, a.e 4 k3_4, cb b3_1 c 0, cb b3_1 c 1]) rfl,
  fun f s W c d hs i j a => opr rfl rfl (by simp [go_sem, a.e 13 (d 0 rfl)]),
  fun f s W c d hs i j a => opc (args := #[.slice (none) (0) (0), .slice (some ⟨(s 1), 0, none⟩) (1) (1)]) rfl rfl (by simp [go_sem, a.e 14 (d 1 rfl).1]) (checked_none _ _ _ [(clo, chi)] W (pp_block (xs := [(clo, chi)]) (d 1 rfl).2 rfl rfl)),
  fun f s W c d hs i j a => opv rfl rfl (by simp [go_sem, a.e 15 (d 2 rfl)]) rfl, trivial⟩ ?_
  intro f4 s4 W4 hB4 g4 hg4
  have fB4 := hB4.f fB3
  have z4 := hB4.below.size
  have b4_0 := hB4.b b3_0
  have b4_1 := hB4.b b3_1
  have b4_2 := hB4.b b3_2
  obtain ⟨r4_1, br4_1⟩ := hB4.is 1
  have lr4_1 := hB4.lr 1 br4_1
  refine hK3 _ _ ?_
  have k4_2 := kt hg4 2 k3_2
  have k4_3 := kt hg4 3 k3_3
  have k4_4 := kt hg4 4 k3_4
  have k4_6 := kt hg4 6 k3_6
  have k4_7 := kt hg4 7 k3_7
  have k4_8 := kt hg4 8 (hB4.is 3)
  refine wp_seq_k fun K6 hK6 => ?_
  refine wp_block ?_
  refine wp_seq_k fun K7 hK7 => ?_
  refine region_dk 3 [(17, 0), (18, 1), (16, 2)] [[], [0], [0, 1]] (rel [is (.int .i64 (checkedErr [] [(clo, chi)])),
   is (.bool ((checkedErr [] [(clo, chi)]) != 0)),
   is (.bool ((checkedErr [] [(clo, chi)]) != 0))])
   ⟨is_k, is_k, is_k, trivial⟩
   ⟨fun f s W c d hs i j a => opv rfl rfl (by simp [go_sem, a.e 8 k4_8]) rfl,
  fun f s W c d hs i j a => opv rfl rfl (by simp [go_sem, a.e 17 (d 0 rfl)]) rfl,
  fun f s W c d hs i j a => opv rfl rfl (by simp [go_sem, a.e 18 (d 1 rfl)]) rfl, trivial⟩ ?_
  intro f5 s5 W5 hB5 g5 hg5
  have fB5 := hB5.f fB4
  have z5 := hB5.below.size
  have b5_0 := hB5.b b4_0
  have b5_1 := hB5.b b4_1
  have b5_2 := hB5.b b4_2
  have b5_3 := hB5.b br4_1
  refine hK7 _ _ ?_
  have k5_2 := kt hg5 2 k4_2
  have k5_3 := kt hg5 3 k4_3
  have k5_4 := kt hg5 4 k4_4
  have k5_6 := kt hg5 6 k4_6
  have k5_7 := kt hg5 7 k4_7
  have k5_8 := kt hg5 8 k4_8
  have k5_16 := kt hg5 16 (hB5.is 2)
  refine wp_cond_split (t := (checkedErr [] [(clo, chi)]) != 0) ((fr_eval rfl).trans k5_16) (fun hc8 => ?_) (fun hc8 => ?_)
  ·
   have hc8' := hc8; try simp only [ba] at hc8'
   refine wp_seq_k fun K9 hK9 => ?_
   refine region_dk 5 [(19, 0), (20, 1), (7, 3), (8, 4)] [[], [], [0], [0, 2], [0, 1, 2, 3]] (rel [is (.agg #[.int .i64 0, .slice (none) (0) (0), .int .i64 0, .slice (none) (0) (0), .slice (none) (0) (0), .int .i64 0, .bool false]),
   is (.int .i64 (checkedErr [] [(clo, chi)])),
   is (undef),
   is (.int .i64 0),
   is (.int .i64 (checkedErr [] [(clo, chi)]))])
    ⟨is_k, is_k, is_k, is_k, is_k, trivial⟩
    ⟨fun f s W c d hs i j a => opv rfl rfl (by simp [go_sem, a.e 6 k5_6, cb b5_2 c 0, cb b5_2 c 1, cb b5_2 c 2, cb b5_2 c 3, cb b5_2 c 4, cb b5_2 c 5, cb b5_2 c 6]) rfl,
  fun f s W c d hs i j a => opv rfl rfl (by simp [go_sem, a.e 8 ((i 4 8 rfl rfl).trans k5_8)]) rfl,
  fun f s W c d hs i j a => ops_same rfl ⟨rfl, rfl⟩ (run_seg (setRow_self W _ _ _ _ (blk_below b5_2 c)).symm (a.v 6 k5_6) (a.v 19 (d 0 rfl)) (blk_below b5_2 c) rfl rfl rfl rfl),
  fun f s W c d hs i j a => opv rfl rfl (by simp [go_sem]) rfl,
  fun f s W c d hs i j a => opv rfl rfl (by simp [go_sem, a.e 20 (d 1 rfl)]) rfl, trivial⟩ ?_
   intro f6 s6 W6 hB6 g6 hg6
   have fB6 := hB6.f fB5
   have z6 := hB6.below.size
   have b6_0 := hB6.b b5_0
   have b6_1 := hB6.b b5_1
   have b6_2 := hB6.b b5_2
   have b6_3 := hB6.b b5_3
   refine hK9 _ _ ?_
   have k6_2 := kt hg6 2 k5_2
   have k6_3 := kt hg6 3 k5_3
   have k6_4 := kt hg6 4 k5_4
   have k6_6 := kt hg6 6 k5_6
   have k6_7 := kt hg6 7 (hB6.is 3)
   have k6_8 := kt hg6 8 (hB6.is 4)
   refine wp_ret ?_
   refine inBlock_ret (then_ret ?_)
   refine leave_gen (v := .tuple #[.agg #[.int .i64 0, .slice (none) (0) (0), .int .i64 0, .slice (none) (0) (0), .slice (none) (0) (0), .int .i64 0, .bool false], .int .i64 0, .int .i64 (checkedErr [] [(clo, chi)])]) (.inr rfl) (by simp [results, Tryz.results28, go_sem, frv 35 k6_6, cl b6_2 0, cl b6_2 1, cl b6_2 2, cl b6_2 3, cl b6_2 4, cl b6_2 5, cl b6_2 6, frv 35 k6_7, frv 35 k6_8]) ?_
   have hs : blankAll ⟨(l1, h1), (l2, h2), (l3, h3), (l4, h4), (l5, h5), wo⟩ clo chi tab = (⟨0, [], 0, [], [], 0, false⟩, 0, checkedErr [] [(clo, chi)]) := by simp only [blankAll, hc5, hc8, if_true, if_false, Bool.false_eq_true]
   rw [hs]
   exact BlankP.bad (by have h' := hc8; simpa using h') rfl fB6
  ·
   have hc8' := hc8; try simp only [ba] at hc8'
   refine wp_seq_k fun K10 hK10 => ?_
   refine region_dk 5 [(22, 0), (23, 1), (24, 2), (25, 3), (21, 4)] [[], [0], [0, 1], [0, 1, 2], [0, 1, 2, 3]] (rel [is (.int .i64 tab),
   row 1 1 #[.int .i64 tab] 3,
   is (.bool (within 0 100 [tab])),
   is (.bool (!(within 0 100 [tab]))),
   is (.bool (!(within 0 100 [tab])))])
    ⟨is_k, row_k, is_k, is_k, is_k, trivial⟩
    ⟨fun f s W c d hs i j a => opv rfl rfl (by simp [go_sem, a.e 2 k5_2]) rfl,
  fun f s W c d hs i j a => opr rfl rfl (by simp [go_sem, a.e 22 (d 0 rfl)]),
  fun f s W c d hs i j a => opc (args := #[.int .i64 0, .int .i64 100, .slice (some ⟨(s 1), 0, none⟩) (1) (1)]) rfl rfl (by simp [go_sem, a.e 23 (d 1 rfl).1]) (within_any 0 100 _ _ _ [tab] W (ii_block (xs := [tab]) (d 1 rfl).2 rfl rfl)),
  fun f s W c d hs i j a => opv rfl rfl (by simp [go_sem, a.e 24 (d 2 rfl)]) rfl,
  fun f s W c d hs i j a => opv rfl rfl (by simp [go_sem, a.e 25 (d 3 rfl)]) rfl, trivial⟩ ?_
   intro f7 s7 W7 hB7 g7 hg7
   have fB7 := hB7.f fB5
   have z7 := hB7.below.size
   have b7_0 := hB7.b b5_0
   have b7_1 := hB7.b b5_1
   have b7_2 := hB7.b b5_2
   have b7_3 := hB7.b b5_3
   obtain ⟨r7_1, br7_1⟩ := hB7.is 1
   have lr7_1 := hB7.lr 1 br7_1
   refine hK10 _ _ ?_
   have k7_2 := kt hg7 2 k5_2
   have k7_3 := kt hg7 3 k5_3
   have k7_4 := kt hg7 4 k5_4
   have k7_6 := kt hg7 6 k5_6
   have k7_7 := kt hg7 7 k5_7
   have k7_8 := kt hg7 8 k5_8
   have k7_21 := kt hg7 21 (hB7.is 4)
   refine wp_cond_split (t := !(within 0 100 [tab])) ((fr_eval rfl).trans k7_21) (fun hc11 => ?_) (fun hc11 => ?_)
   ·
    have hc11' := hc11; try simp only [ba] at hc11'
    refine wp_seq_k fun K12 hK12 => ?_
    refine region_dk 4 [(26, 0), (7, 2), (8, 3)] [[], [0], [0, 1], [0, 1, 2]] (rel [is (.agg #[.int .i64 0, .slice (none) (0) (0), .int .i64 0, .slice (none) (0) (0), .slice (none) (0) (0), .int .i64 0, .bool false]),
   is (undef),
   is (.int .i64 0),
   is (.int .i64 5)])
     ⟨is_k, is_k, is_k, is_k, trivial⟩
     ⟨fun f s W c d hs i j a => opv rfl rfl (by simp [go_sem, a.e 6 k7_6, cb b7_2 c 0, cb b7_2 c 1, cb b7_2 c 2, cb b7_2 c 3, cb b7_2 c 4, cb b7_2 c 5, cb b7_2 c 6]) rfl,
  fun f s W c d hs i j a => ops_same rfl ⟨rfl, rfl⟩ (run_seg (setRow_self W _ _ _ _ (blk_below b7_2 c)).symm (a.v 6 k7_6) (a.v 26 (d 0 rfl)) (blk_below b7_2 c) rfl rfl rfl rfl),
  fun f s W c d hs i j a => opv rfl rfl (by simp [go_sem]) rfl,
  fun f s W c d hs i j a => opv rfl rfl (by simp [go_sem]) rfl, trivial⟩ ?_
    intro f8 s8 W8 hB8 g8 hg8
    have fB8 := hB8.f fB7
    have z8 := hB8.below.size
    have b8_0 := hB8.b b7_0
    have b8_1 := hB8.b b7_1
    have b8_2 := hB8.b b7_2
    have b8_3 := hB8.b b7_3
    have b8_4 := hB8.b br7_1
    refine hK12 _ _ ?_
    have k8_2 := kt hg8 2 k7_2
    have k8_3 := kt hg8 3 k7_3
    have k8_4 := kt hg8 4 k7_4
    have k8_6 := kt hg8 6 k7_6
    have k8_7 := kt hg8 7 (hB8.is 2)
    have k8_8 := kt hg8 8 (hB8.is 3)
    refine wp_ret ?_
    refine inBlock_ret (then_ret ?_)
    refine leave_gen (v := .tuple #[.agg #[.int .i64 0, .slice (none) (0) (0), .int .i64 0, .slice (none) (0) (0), .slice (none) (0) (0), .int .i64 0, .bool false], .int .i64 0, .int .i64 5]) (.inr rfl) (by simp [results, Tryz.results28, go_sem, frv 35 k8_6, cl b8_2 0, cl b8_2 1, cl b8_2 2, cl b8_2 3, cl b8_2 4, cl b8_2 5, cl b8_2 6, frv 35 k8_7, frv 35 k8_8]) ?_
    have hs : blankAll ⟨(l1, h1), (l2, h2), (l3, h3), (l4, h4), (l5, h5), wo⟩ clo chi tab = (⟨0, [], 0, [], [], 0, false⟩, 0, 5) := by simp only [blankAll, hc5, hc8, hc11, if_true, if_false, Bool.false_eq_true]
    rw [hs]
    exact BlankP.bad (by decide) rfl fB8
   ·
    have hc11' := hc11; try simp only [ba] at hc11'
    exact absurd (hbad hc5 hc8) (by rw [hc11]; decide)
    -- done
 ·
  have hc5' := hc5; try simp only [ba] at hc5'
  have hne_ : ((wishErr ⟨(l1, h1), (l2, h2), (l3, h3), (l4, h4), (l5, h5), wo⟩) != 0) = true := by simpa [bne] using hc5
  refine wp_skip ?_
  refine hK3 _ _ ?_
  refine wp_seq_k fun K13 hK13 => ?_
  refine wp_block ?_
  refine wp_seq_k fun K14 hK14 => ?_
  refine region_dk 3 [(17, 0), (18, 1), (16, 2)] [[], [0], [0, 1]] (rel [is (.int .i64 (wishErr ⟨(l1, h1), (l2, h2), (l3, h3), (l4, h4), (l5, h5), wo⟩)),
   is (.bool ((wishErr ⟨(l1, h1), (l2, h2), (l3, h3), (l4, h4), (l5, h5), wo⟩) != 0)),
   is (.bool ((wishErr ⟨(l1, h1), (l2, h2), (l3, h3), (l4, h4), (l5, h5), wo⟩) != 0))])
   ⟨is_k, is_k, is_k, trivial⟩
   ⟨fun f s W c d hs i j a => opv rfl rfl (by simp [go_sem, a.e 8 k3_8]) rfl,
  fun f s W c d hs i j a => opv rfl rfl (by simp [go_sem, a.e 17 (d 0 rfl)]) rfl,
  fun f s W c d hs i j a => opv rfl rfl (by simp [go_sem, a.e 18 (d 1 rfl)]) rfl, trivial⟩ ?_
  intro f9 s9 W9 hB9 g9 hg9
  have fB9 := hB9.f fB3
  have z9 := hB9.below.size
  have b9_0 := hB9.b b3_0
  have b9_1 := hB9.b b3_1
  have b9_2 := hB9.b b3_2
  refine hK14 _ _ ?_
  have k9_2 := kt hg9 2 k3_2
  have k9_3 := kt hg9 3 k3_3
  have k9_4 := kt hg9 4 k3_4
  have k9_6 := kt hg9 6 k3_6
  have k9_7 := kt hg9 7 k3_7
  have k9_8 := kt hg9 8 k3_8
  have k9_16 := kt hg9 16 (hB9.is 2)
  have hc15 : (fr 35 g9).eval (.tmp 16) = .bool true := ((fr_eval rfl).trans k9_16).trans (by rw [hne_])
  refine wp_cond_true (hc15) ?_
  refine wp_seq_k fun K16 hK16 => ?_
  refine region_dk 5 [(19, 0), (20, 1), (7, 3), (8, 4)] [[], [], [0], [0, 2], [0, 1, 2, 3]] (rel [is (.agg #[.int .i64 0, .slice (none) (0) (0), .int .i64 0, .slice (none) (0) (0), .slice (none) (0) (0), .int .i64 0, .bool false]),
   is (.int .i64 (wishErr ⟨(l1, h1), (l2, h2), (l3, h3), (l4, h4), (l5, h5), wo⟩)),
   is (undef),
   is (.int .i64 0),
   is (.int .i64 (wishErr ⟨(l1, h1), (l2, h2), (l3, h3), (l4, h4), (l5, h5), wo⟩))])
   ⟨is_k, is_k, is_k, is_k, is_k, trivial⟩
   ⟨fun f s W c d hs i j a => opv rfl rfl (by simp [go_sem, a.e 6 k9_6, cb b9_2 c 0, cb b9_2 c 1, cb b9_2 c 2, cb b9_2 c 3, cb b9_2 c 4, cb b9_2 c 5, cb b9_2 c 6]) rfl,
  fun f s W c d hs i j a => opv rfl rfl (by simp [go_sem, a.e 8 ((i 4 8 rfl rfl).trans k9_8)]) rfl,
  fun f s W c d hs i j a => ops_same rfl ⟨rfl, rfl⟩ (run_seg (setRow_self W _ _ _ _ (blk_below b9_2 c)).symm (a.v 6 k9_6) (a.v 19 (d 0 rfl)) (blk_below b9_2 c) rfl rfl rfl rfl),
  fun f s W c d hs i j a => opv rfl rfl (by simp [go_sem]) rfl,
  fun f s W c d hs i j a => opv rfl rfl (by simp [go_sem, a.e 20 (d 1 rfl)]) rfl, trivial⟩ ?_
  intro f10 s10 W10 hB10 g10 hg10
  have fB10 := hB10.f fB9
  have z10 := hB10.below.size
  have b10_0 := hB10.b b9_0
  have b10_1 := hB10.b b9_1
  have b10_2 := hB10.b b9_2
  refine hK16 _ _ ?_
  have k10_2 := kt hg10 2 k9_2
  have k10_3 := kt hg10 3 k9_3
  have k10_4 := kt hg10 4 k9_4
  have k10_6 := kt hg10 6 k9_6
  have k10_7 := kt hg10 7 (hB10.is 3)
  have k10_8 := kt hg10 8 (hB10.is 4)
  refine wp_ret ?_
  refine inBlock_ret (then_ret ?_)
  refine leave_gen (v := .tuple #[.agg #[.int .i64 0, .slice (none) (0) (0), .int .i64 0, .slice (none) (0) (0), .slice (none) (0) (0), .int .i64 0, .bool false], .int .i64 0, .int .i64 (wishErr ⟨(l1, h1), (l2, h2), (l3, h3), (l4, h4), (l5, h5), wo⟩)]) (.inr rfl) (by simp [results, Tryz.results28, go_sem, frv 35 k10_6, cl b10_2 0, cl b10_2 1, cl b10_2 2, cl b10_2 3, cl b10_2 4, cl b10_2 5, cl b10_2 6, frv 35 k10_7, frv 35 k10_8]) ?_
  have hs : blankAll ⟨(l1, h1), (l2, h2), (l3, h3), (l4, h4), (l5, h5), wo⟩ clo chi tab = (⟨0, [], 0, [], [], 0, false⟩, 0, wishErr ⟨(l1, h1), (l2, h2), (l3, h3), (l4, h4), (l5, h5), wo⟩) := by simp only [blankAll, hc5, if_true, if_false, Bool.false_eq_true]
  rw [hs]
  exact BlankP.bad (by have h' := hne_; simpa using h') rfl fB10
set_option maxRecDepth 100000 in
set_option maxHeartbeats 1000000 in
theorem blank_err (l1 h1 l2 h2 l3 h3 l4 h4 l5 h5 clo chi : Int) (wo : Bool) (tab : Int) (w : World) (hw1 : (wishErr ⟨(l1, h1), (l2, h2), (l3, h3), (l4, h4), (l5, h5), wo⟩ == 0) = true) (hc1 : (checkedErr [] [(clo, chi)] != 0) = false) (hc2 : (!(within 0 100 [tab])) = false) (he : (blankOf ⟨(l1, h1), (l2, h2), (l3, h3), (l4, h4), (l5, h5), wo⟩ clo chi tab).2.2 ≠ 0) :
  Calls Tryz.prog 28 #[.agg #[.int .i64 l1, .int .i64 h1, .int .i64 l2, .int .i64 h2, .int .i64 l3, .int .i64 h3, .int .i64 l4, .int .i64 h4, .int .i64 l5, .int .i64 h5, .bool wo], .agg #[.int .i64 clo, .int .i64 chi], .int .i64 tab] w (BlankP (blankAll ⟨(l1, h1), (l2, h2), (l3, h3), (l4, h4), (l5, h5), wo⟩ clo chi tab) w) := by
 have hw0 : wishErr ⟨(l1, h1), (l2, h2), (l3, h3), (l4, h4), (l5, h5), wo⟩ = 0 := by simpa using hw1
 have hw2 : (wishErr ⟨(l1, h1), (l2, h2), (l3, h3), (l4, h4), (l5, h5), wo⟩ != 0) = false := by simp [hw0]
 obtain ⟨-, hsp⟩ := checked_split (bs := []) (cs := [(clo, chi)]) (by simpa using hc1)
 have hsb := span_bounds (hsp (clo, chi) (by simp))
 simp only at hsb
 obtain ⟨R_, hR_⟩ : ∃ r, r = blankOf ⟨(l1, h1), (l2, h2), (l3, h3), (l4, h4), (l5, h5), wo⟩ clo chi tab := ⟨_, rfl⟩
 have hs : blankAll ⟨(l1, h1), (l2, h2), (l3, h3), (l4, h4), (l5, h5), wo⟩ clo chi tab = R_ := by simp only [blankAll, hw1, hc1, hc2, if_true, if_false, Bool.false_eq_true]; exact hR_.symm
 rw [hs]
 refine calls_fr Tryz.func28 Tryz.ntmps28 rfl rfl fun g hg => ?_
 have k0 : g 0 = .agg #[.int .i64 l1, .int .i64 h1, .int .i64 l2, .int .i64 h2, .int .i64 l3, .int .i64 h3, .int .i64 l4, .int .i64 h4, .int .i64 l5, .int .i64 h5, .bool wo] := hg 0
 have k1 : g 1 = .agg #[.int .i64 clo, .int .i64 chi] := hg 1
 have k2 : g 2 = .int .i64 tab := hg 2
 clear hg
 have fB0 : Below w.heap.size w w := Below.refl _ _
 refine wp_seq_k fun K1 hK1 => ?_
 refine region_dk 5 [(3, 0), (4, 1), (6, 2), (7, 3), (8, 4)] [[], [], [], [], [3]] (rel [bx 0 #[.int .i64 l1, .int .i64 h1, .int .i64 l2, .int .i64 h2, .int .i64 l3, .int .i64 h3, .int .i64 l4, .int .i64 h4, .int .i64 l5, .int .i64 h5, .bool wo] 43,
   bx 1 #[.int .i64 clo, .int .i64 chi] 26,
   bx 2 #[.int .i64 0, .slice (none) (0) (0), .int .i64 0, .slice (none) (0) (0), .slice (none) (0) (0), .int .i64 0, .bool false] 24,
   is (.int .i64 0),
   is (.int .i64 0)])
  ⟨bx_k, bx_k, bx_k, is_k, is_k, trivial⟩
  ⟨fun f s W c d hs i j a => opb rfl rfl (by simp [go_sem, a.e 0 k0]),
  fun f s W c d hs i j a => opb rfl rfl (by simp [go_sem, a.e 1 k1]),
  fun f s W c d hs i j a => opb rfl rfl (by simp [go_sem]),
  fun f s W c d hs i j a => opv rfl rfl (by simp [go_sem]) rfl,
  fun f s W c d hs i j a => opv rfl rfl (by simp [go_sem]) rfl, trivial⟩ ?_
 intro f1 s1 W1 hB1 g1 hg1
 have fB1 := hB1.f fB0
 have z1 := hB1.below.size
 obtain ⟨r1_0, br1_0⟩ := hB1.is 0
 have lr1_0 := hB1.lr 0 br1_0
 obtain ⟨r1_1, br1_1⟩ := hB1.is 1
 have lr1_1 := hB1.lr 1 br1_1
 obtain ⟨r1_2, br1_2⟩ := hB1.is 2
 have lr1_2 := hB1.lr 2 br1_2
 have ne1_0_1 : s1 0 ≠ s1 1 := hB1.ne 0 1 (by decide) (by decide) (by decide) (fun _ _ _ h => lt_of_blk h.2) (fun _ _ _ h => lt_of_blk h.2)
 have ne1_0_2 : s1 0 ≠ s1 2 := hB1.ne 0 2 (by decide) (by decide) (by decide) (fun _ _ _ h => lt_of_blk h.2) (fun _ _ _ h => lt_of_blk h.2)
 have ne1_1_2 : s1 1 ≠ s1 2 := hB1.ne 1 2 (by decide) (by decide) (by decide) (fun _ _ _ h => lt_of_blk h.2) (fun _ _ _ h => lt_of_blk h.2)
 refine hK1 _ _ ?_
 have k1_2 := kt hg1 2 k2
 have k1_3 := kt hg1 3 r1_0
 have k1_4 := kt hg1 4 r1_1
 have k1_6 := kt hg1 6 r1_2
 have k1_7 := kt hg1 7 (hB1.is 3)
 have k1_8 := kt hg1 8 (hB1.is 4)
 refine wp_seq_k fun K2 hK2 => ?_
 refine region_dk 3 [(9, 0), (10, 1), (8, 2)] [[], [0], [0, 1]] (rel [is (.agg #[.int .i64 l1, .int .i64 h1, .int .i64 l2, .int .i64 h2, .int .i64 l3, .int .i64 h3, .int .i64 l4, .int .i64 h4, .int .i64 l5, .int .i64 h5, .bool wo]),
   is (.int .i64 (wishErr ⟨(l1, h1), (l2, h2), (l3, h3), (l4, h4), (l5, h5), wo⟩)),
   is (.int .i64 (wishErr ⟨(l1, h1), (l2, h2), (l3, h3), (l4, h4), (l5, h5), wo⟩))])
  ⟨is_k, is_k, is_k, trivial⟩
  ⟨fun f s W c d hs i j a => opv rfl rfl (by simp [go_sem, a.e 3 k1_3, cb br1_0 c 0, cb br1_0 c 1, cb br1_0 c 2, cb br1_0 c 3, cb br1_0 c 4, cb br1_0 c 5, cb br1_0 c 6, cb br1_0 c 7, cb br1_0 c 8, cb br1_0 c 9, cb br1_0 c 10]) rfl,
  fun f s W c d hs i j a => opc rfl rfl (by simp [go_sem, a.e 9 (d 0 rfl)]) (wish_any l1 h1 l2 h2 l3 h3 l4 h4 l5 h5 wo W),
  fun f s W c d hs i j a => opv rfl rfl (by simp [go_sem, a.e 10 (d 1 rfl)]) rfl, trivial⟩ ?_
 intro f2 s2 W2 hB2 g2 hg2
 have fB2 := hB2.f fB1
 have z2 := hB2.below.size
 have b2_0 := hB2.b br1_0
 have b2_1 := hB2.b br1_1
 have b2_2 := hB2.b br1_2
 refine hK2 _ _ ?_
 have k2_2 := kt hg2 2 k1_2
 have k2_3 := kt hg2 3 k1_3
 have k2_4 := kt hg2 4 k1_4
 have k2_6 := kt hg2 6 k1_6
 have k2_7 := kt hg2 7 k1_7
 have k2_8 := kt hg2 8 (hB2.is 2)
 refine wp_seq_k fun K3 hK3 => ?_
 refine wp_seq_k fun K4 hK4 => ?_
 refine region_dk 2 [(11, 0), (12, 1)] [[], [0]] (rel [is (.int .i64 (wishErr ⟨(l1, h1), (l2, h2), (l3, h3), (l4, h4), (l5, h5), wo⟩)),
   is (.bool ((wishErr ⟨(l1, h1), (l2, h2), (l3, h3), (l4, h4), (l5, h5), wo⟩) == 0))])
  ⟨is_k, is_k, trivial⟩
  ⟨fun f s W c d hs i j a => opv rfl rfl (by simp [go_sem, a.e 8 k2_8]) rfl,
  fun f s W c d hs i j a => opv rfl rfl (by simp [go_sem, a.e 11 (d 0 rfl)]) rfl, trivial⟩ ?_
 intro f3 s3 W3 hB3 g3 hg3
 have fB3 := hB3.f fB2
 have z3 := hB3.below.size
 have b3_0 := hB3.b b2_0
 have b3_1 := hB3.b b2_1
 have b3_2 := hB3.b b2_2
 refine hK4 _ _ ?_
 have k3_2 := kt hg3 2 k2_2
 have k3_3 := kt hg3 3 k2_3
 have k3_4 := kt hg3 4 k2_4
 have k3_6 := kt hg3 6 k2_6
 have k3_7 := kt hg3 7 k2_7
 have k3_8 := kt hg3 8 k2_8
 have k3_12 := kt hg3 12 (hB3.is 1)
 have hc5 : (fr 35 g3).eval (.tmp 12) = .bool true := ((fr_eval rfl).trans k3_12).trans (by rw [hw1])
 refine wp_cond_true (hc5) ?_
 refine region_dk 4 [(13, 0), (14, 1), (15, 2), (8, 3)] [[], [0], [0, 1], [0, 1, 2]] (rel [is (.agg #[.int .i64 clo, .int .i64 chi]),
   row 1 1 #[.int .i64 clo, .int .i64 chi] 26,
   is (.int .i64 (checkedErr [] [(clo, chi)])),
   is (.int .i64 (checkedErr [] [(clo, chi)]))])
  ⟨is_k, row_k, is_k, is_k, trivial⟩
  ⟨fun f s W c d hs i j a => opv rfl rfl (by simp [go_sem, a.e 4 k3_4, cb b3_1 c 0, cb b3_1 c 1]) rfl,
  fun f s W c d hs i j a => opr rfl rfl (by simp [go_sem, a.e 13 (d 0 rfl)]),
  fun f s W c d hs i j a => opc (args := #[.slice (none) (0) (0), .slice (some ⟨(s 1), 0, none⟩) (1) (1)]) rfl rfl (by simp [go_sem, a.e 14 (d 1 rfl).1]) (checked_none _ _ _ [(clo, chi)] W (pp_block (xs := [(clo, chi)]) (d 1 rfl).2 rfl rfl)),
  fun f s W c d hs i j a => opv rfl rfl (by simp [go_sem, a.e 15 (d 2 rfl)]) rfl, trivial⟩ ?_
 intro f4 s4 W4 hB4 g4 hg4
 have fB4 := hB4.f fB3
 have z4 := hB4.below.size
 have b4_0 := hB4.b b3_0
 have b4_1 := hB4.b b3_1
 have b4_2 := hB4.b b3_2
 obtain ⟨r4_1, br4_1⟩ := hB4.is 1
 have lr4_1 := hB4.lr 1 br4_1
 refine hK3 _ _ ?_
 have k4_2 := kt hg4 2 k3_2
 have k4_3 := kt hg4 3 k3_3
 have k4_4 := kt hg4 4 k3_4
 have k4_6 := kt hg4 6 k3_6
 have k4_7 := kt hg4 7 k3_7
 have k4_8 := kt hg4 8 (hB4.is 3)
 refine wp_seq_k fun K6 hK6 => ?_
 refine wp_block ?_
 refine wp_seq_k fun K7 hK7 => ?_
 refine region_dk 3 [(17, 0), (18, 1), (16, 2)] [[], [0], [0, 1]] (rel [is (.int .i64 (checkedErr [] [(clo, chi)])),
   is (.bool ((checkedErr [] [(clo, chi)]) != 0)),
   is (.bool ((checkedErr [] [(clo, chi)]) != 0))])
  ⟨is_k, is_k, is_k, trivial⟩
  ⟨fun f s W c d hs i j a => opv rfl rfl (by simp [go_sem, a.e 8 k4_8]) rfl,
  fun f s W c d hs i j a => opv rfl rfl (by simp [go_sem, a.e 17 (d 0 rfl)]) rfl,
  fun f s W c d hs i j a => opv rfl rfl (by simp [go_sem, a.e 18 (d 1 rfl)]) rfl, trivial⟩ ?_
 intro f5 s5 W5 hB5 g5 hg5
 have fB5 := hB5.f fB4
 have z5 := hB5.below.size
 have b5_0 := hB5.b b4_0
 have b5_1 := hB5.b b4_1
 have b5_2 := hB5.b b4_2
 have b5_3 := hB5.b br4_1
 refine hK7 _ _ ?_
 have k5_2 := kt hg5 2 k4_2
 have k5_3 := kt hg5 3 k4_3
 have k5_4 := kt hg5 4 k4_4
 have k5_6 := kt hg5 6 k4_6
 have k5_7 := kt hg5 7 k4_7
 have k5_8 := kt hg5 8 k4_8
 have k5_16 := kt hg5 16 (hB5.is 2)
 have hc8 : (fr 35 g5).eval (.tmp 16) = .bool false := ((fr_eval rfl).trans k5_16).trans (by rw [hc1])
 refine wp_cond_false (hc8) ?_
 refine wp_seq_k fun K9 hK9 => ?_
 refine region_dk 5 [(22, 0), (23, 1), (24, 2), (25, 3), (21, 4)] [[], [0], [0, 1], [0, 1, 2], [0, 1, 2, 3]] (rel [is (.int .i64 tab),
   row 1 1 #[.int .i64 tab] 3,
   is (.bool (within 0 100 [tab])),
   is (.bool (!(within 0 100 [tab]))),
   is (.bool (!(within 0 100 [tab])))])
  ⟨is_k, row_k, is_k, is_k, is_k, trivial⟩
  ⟨fun f s W c d hs i j a => opv rfl rfl (by simp [go_sem, a.e 2 k5_2]) rfl,
  fun f s W c d hs i j a => opr rfl rfl (by simp [go_sem, a.e 22 (d 0 rfl)]),
  fun f s W c d hs i j a => opc (args := #[.int .i64 0, .int .i64 100, .slice (some ⟨(s 1), 0, none⟩) (1) (1)]) rfl rfl (by simp [go_sem, a.e 23 (d 1 rfl).1]) (within_any 0 100 _ _ _ [tab] W (ii_block (xs := [tab]) (d 1 rfl).2 rfl rfl)),
  fun f s W c d hs i j a => opv rfl rfl (by simp [go_sem, a.e 24 (d 2 rfl)]) rfl,
  fun f s W c d hs i j a => opv rfl rfl (by simp [go_sem, a.e 25 (d 3 rfl)]) rfl, trivial⟩ ?_
 intro f6 s6 W6 hB6 g6 hg6
 have fB6 := hB6.f fB5
 have z6 := hB6.below.size
 have b6_0 := hB6.b b5_0
 have b6_1 := hB6.b b5_1
 have b6_2 := hB6.b b5_2
 have b6_3 := hB6.b b5_3
 obtain ⟨r6_1, br6_1⟩ := hB6.is 1
 have lr6_1 := hB6.lr 1 br6_1
 refine hK9 _ _ ?_
 have k6_2 := kt hg6 2 k5_2
 have k6_3 := kt hg6 3 k5_3
 have k6_4 := kt hg6 4 k5_4
 have k6_6 := kt hg6 6 k5_6
 have k6_7 := kt hg6 7 k5_7
 have k6_8 := kt hg6 8 k5_8
 have k6_21 := kt hg6 21 (hB6.is 4)
 have hc10 : (fr 35 g6).eval (.tmp 21) = .bool false := ((fr_eval rfl).trans k6_21).trans (by rw [hc2])
 refine wp_cond_false (hc10) ?_
 refine wp_skip ?_
 refine inBlock_normal ?_
 refine hK6 _ _ ?_
 refine wp_seq_k fun K11 hK11 => ?_
 refine region_dk 8 [(27, 0), (28, 1), (29, 2), (30, 3), (31, 4), (32, 5), (33, 6), (34, 7), (7, 9), (8, 10)] [[], [], [0, 1], [], [0, 1, 2, 3], [0, 1, 2, 3, 4], [0, 1, 2, 3, 4], [0, 1, 2, 3, 4], [0, 1, 2, 3, 4, 5, 6, 7], [0, 1, 2, 3, 4, 5, 6, 7, 8], [0, 1, 2, 3, 4, 5, 6, 7, 8, 9]] (rel [is (.agg #[.int .i64 l1, .int .i64 h1, .int .i64 l2, .int .i64 h2, .int .i64 l3, .int .i64 h3, .int .i64 l4, .int .i64 h4, .int .i64 l5, .int .i64 h5, .bool wo]),
   is (.agg #[.int .i64 clo, .int .i64 chi]),
   is (.agg #[.int .i64 l1, .int .i64 h1, .int .i64 l2, .int .i64 h2, .int .i64 l3, .int .i64 h3, .int .i64 l4, .int .i64 h4, .int .i64 l5, .int .i64 h5, .bool wo, .int .i64 clo, .int .i64 chi]),
   is (.int .i64 tab),
   is (.tuple #[.agg #[.int .i64 0, .slice (none) (0) (0), .int .i64 0, .slice (none) (0) (0), .slice (none) (0) (0), .int .i64 0, .bool false], .int .i64 R_.2.1, .int .i64 R_.2.2]),
   is (.agg #[.int .i64 0, .slice (none) (0) (0), .int .i64 0, .slice (none) (0) (0), .slice (none) (0) (0), .int .i64 0, .bool false]),
   is (.int .i64 R_.2.1),
   is (.int .i64 R_.2.2)])
  ⟨is_k, is_k, is_k, is_k, is_k, is_k, is_k, is_k, trivial⟩
  ⟨fun f s W c d hs i j a => opv rfl rfl (by simp [go_sem, a.e 3 k6_3, cb b6_0 c 0, cb b6_0 c 1, cb b6_0 c 2, cb b6_0 c 3, cb b6_0 c 4, cb b6_0 c 5, cb b6_0 c 6, cb b6_0 c 7, cb b6_0 c 8, cb b6_0 c 9, cb b6_0 c 10]) rfl,
  fun f s W c d hs i j a => opv rfl rfl (by simp [go_sem, a.e 4 k6_4, cb b6_1 c 0, cb b6_1 c 1]) rfl,
  fun f s W c d hs i j a => opv rfl rfl (by simp [go_sem, a.e 27 (d 0 rfl), a.e 28 (d 1 rfl)]) rfl,
  fun f s W c d hs i j a => opv rfl rfl (by simp [go_sem, a.e 2 k6_2]) rfl,
  fun f s W c d hs i j a => opDo_call (args := #[.agg #[.int .i64 l1, .int .i64 h1, .int .i64 l2, .int .i64 h2, .int .i64 l3, .int .i64 h3, .int .i64 l4, .int .i64 h4, .int .i64 l5, .int .i64 h5, .bool wo, .int .i64 clo, .int .i64 chi], .int .i64 tab]) rfl rfl (by simp [go_sem, a.e 29 (d 2 rfl), a.e 30 (d 3 rfl)]) (hR_ ▸ make_any l1 h1 l2 h2 l3 h3 l4 h4 l5 h5 clo chi wo tab W (wish_in hw0) (by omega) (by omega) (by omega) (by omega)) (fun e W' h => ⟨_, (h.2 (hR_ ▸ he)).1, (h.2 (hR_ ▸ he)).2, rfl⟩),
  fun f s W c d hs i j a => opv rfl rfl (by simp [go_sem, a.e 31 (d 4 rfl)]) rfl,
  fun f s W c d hs i j a => opv rfl rfl (by simp [go_sem, a.e 31 (d 4 rfl)]) rfl,
  fun f s W c d hs i j a => opv rfl rfl (by simp [go_sem, a.e 31 (d 4 rfl)]) rfl, trivial⟩ ?_
 intro f7 s7 W7 hB7 g7 hg7
 have fB7 := hB7.f fB6
 have z7 := hB7.below.size
 have b7_0 := hB7.b b6_0
 have b7_1 := hB7.b b6_1
 have b7_2 := hB7.b b6_2
 have b7_3 := hB7.b b6_3
 have b7_4 := hB7.b br6_1
 have k7_6 := kt hg7 6 k6_6
 have k7_32 := kt hg7 32 (hB7.is 5)
 have k7_33 := kt hg7 33 (hB7.is 6)
 have k7_34 := kt hg7 34 (hB7.is 7)
 obtain ⟨W8, hW8⟩ : ∃ W', W' = W7.setRow (s1 2) #[.int .i64 0, .slice (none) (0) (0), .int .i64 0, .slice (none) (0) (0), .slice (none) (0) (0), .int .i64 0, .bool false] := ⟨_, rfl⟩
 refine tail_skip (o := _) rfl ⟨rfl, rfl⟩ (run_seg hW8 (fr_ev k7_6) (fr_ev k7_32) b7_2 rfl rfl rfl rfl) ?_
 obtain ⟨fB8, nb8, ot8, z8⟩ := seg_facts hW8 fB7 b7_2 (by omega)
 clear hW8
 have b8_0 := ot8 _ _ (by omega) b7_0
 have b8_1 := ot8 _ _ (by omega) b7_1
 have b8_3 := ot8 _ _ (by omega) b7_3
 have b8_4 := ot8 _ _ (by omega) b7_4
 refine tail_value (o := _) rfl rfl rfl (v := .int .i64 R_.2.1) (by simp [go_sem, frv 35 k7_33]) ?_
 generalize hg9 : upd g7 7 (.int .i64 R_.2.1) = g9
 have k9_6 := ku hg9 6 k7_6
 have k9_34 := ku hg9 34 k7_34
 have k9_7 := kt hg9 7 (upd_same _ _ _)
 refine tail_value (o := _) rfl rfl rfl (v := .int .i64 R_.2.2) (by simp [go_sem, frv 35 k9_34]) ?_
 generalize hg10 : upd g9 8 (.int .i64 R_.2.2) = g10
 have k10_6 := ku hg10 6 k9_6
 have k10_7 := ku hg10 7 k9_7
 have k10_8 := kt hg10 8 (upd_same _ _ _)
 refine wpOps_end ?_
 refine hK11 _ _ ?_
 refine wp_ret ?_
 refine leave_gen (v := .tuple #[.agg #[.int .i64 0, .slice (none) (0) (0), .int .i64 0, .slice (none) (0) (0), .slice (none) (0) (0), .int .i64 0, .bool false], .int .i64 R_.2.1, .int .i64 R_.2.2]) (.inr rfl) (by simp [results, Tryz.results28, go_sem, frv 35 k10_6, cl nb8 0, cl nb8 1, cl nb8 2, cl nb8 3, cl nb8 4, cl nb8 5, cl nb8 6, frv 35 k10_7, frv 35 k10_8]) ?_
 exact ⟨fun h => absurd h (hR_ ▸ he), fun _ => ⟨rfl, fB8⟩⟩
end Go.Proofs.YthnediamopehfaaGreat
namespace Go.Proofs.YthnediamopehfaaGreat
open Go.RowKit
def inB (n lo hi : Int) : Bool := decide (lo ≤ n) && decide (n ≤ hi)
set_option maxRecDepth 100000 in
set_option maxHeartbeats 400000 in
theorem in_any (n lo hi : Int) (w : World) :
  Calls Tryz.prog 18 #[.int .i64 n, .int .i64 lo, .int .i64 hi] w (fun e w' => e = .returned (.bool (inB n lo hi)) ∧ Below w.heap.size w w') := by
 refine calls_fr Tryz.func18 Tryz.ntmps18 rfl rfl fun g hg => ?_
 have k0 : g 0 = .int .i64 n := hg 0
 have k1 : g 1 = .int .i64 lo := hg 1
 have k2 : g 2 = .int .i64 hi := hg 2
 clear hg
 have fB0 : Below w.heap.size w w := Below.refl _ _
 refine wp_seq_k fun K1 hK1 => ?_
 refine region_dk 1 [(6, 0)] [[]] (rel [is (.bool false)])
  ⟨is_k, trivial⟩
  ⟨fun f s W b h i j a ha => opv rfl rfl (by simp [go_sem]) rfl, trivial⟩ ?_
 intro f1 s1 W1 hB1 g1 hg1
 have fB1 := hB1.f fB0
 have z1 := hB1.below.size
 refine hK1 _ _ ?_
 have k1_0 := kt hg1 0 k0
 have k1_1 := kt hg1 1 k1
 have k1_2 := kt hg1 2 k2
 have k1_6 := kt hg1 6 (hB1.is 0)
 refine wp_seq_k fun K2 hK2 => ?_
 refine region_dk 9 [(7, 0), (8, 1), (9, 2), (10, 3), (11, 4), (12, 5), (13, 6), (14, 7), (6, 8)] [[], [], [0, 1], [0, 1, 2], [0, 1, 2, 3], [0, 1, 2, 3], [0, 1, 2, 3, 4, 5], [0, 1, 2, 3, 4, 5, 6], [0, 1, 2, 3, 4, 5, 6, 7]] (rel [is (.int .i64 n),
   is (.int .i64 lo),
   is (.bool (decide (lo ≤ n))),
   is (.bool (decide (lo ≤ n))),
   gd (decide (lo ≤ n)) true (is (.int .i64 n)),
   gd (decide (lo ≤ n)) true (is (.int .i64 hi)),
   gd (decide (lo ≤ n)) true (is (.bool (decide (n ≤ hi)))),
   is (.bool ((decide (lo ≤ n)) && (decide (n ≤ hi)))),
   is (.bool ((decide (lo ≤ n)) && (decide (n ≤ hi))))])
  ⟨is_k, is_k, is_k, is_k, gd_k (is_k), gd_k (is_k), gd_k (is_k), is_k, is_k, trivial⟩
  ⟨fun f s W b h i j a ha => opv rfl rfl (by simp [go_sem, ha.e 0 k1_0]) rfl,
  fun f s W b h i j a ha => opv rfl rfl (by simp [go_sem, ha.e 1 k1_1]) rfl,
  fun f s W b h i j a ha => opv rfl rfl (by simp [go_sem, ha.e 7 (h 0 rfl), ha.e 8 (h 1 rfl)]) rfl,
  fun f s W b h i j a ha => opv rfl rfl (by simp [go_sem, ha.e 9 (h 2 rfl)]) rfl,
  fun f s W b h i j a ha => gdo rfl rfl (ha.says (d := 10) rfl rfl (h 3 rfl)) fun hgd0 => gv (by simp [go_sem, ha.e 0 k1_0]) rfl,
  fun f s W b h i j a ha => gdo rfl rfl (ha.says (d := 10) rfl rfl (h 3 rfl)) fun hgd0 => gv (by simp [go_sem, ha.e 2 k1_2]) rfl,
  fun f s W b h i j a ha => gdo rfl rfl (ha.says (d := 10) rfl rfl (h 3 rfl)) fun hgd0 => gv (by simp [go_sem, ha.e 11 ((h 4 rfl).1 hgd0), ha.e 12 ((h 5 rfl).1 hgd0)]) rfl,
  fun f s W b h i j a ha => opk (c := decide (lo ≤ n)) rfl rfl (fun hpk => by first | (simp [go_sem, hpk, ha.e 10 (h 3 rfl)]; done) | (have hpk' := hpk; simp at hpk'; simp [go_sem, hpk', hpk, ha.e 10 (h 3 rfl)])) (fun hpk => by first | (simp [go_sem, hpk, ha.e 10 (h 3 rfl), ha.e 13 ((h 6 rfl).1 hpk)]; done) | (have hpk' := hpk; simp at hpk'; simp [go_sem, hpk', hpk, ha.e 10 (h 3 rfl), ha.e 13 ((h 6 rfl).1 hpk)])),
  fun f s W b h i j a ha => opv rfl rfl (by simp [go_sem, ha.e 14 (h 7 rfl)]) rfl, trivial⟩ ?_
 intro f2 s2 W2 hB2 g2 hg2
 have fB2 := hB2.f fB1
 have z2 := hB2.below.size
 refine hK2 _ _ ?_
 have k2_6 := kt hg2 6 (hB2.is 8)
 refine wp_ret ?_
 refine leave_one (N := 15) (v := .bool ((decide (lo ≤ n)) && (decide (n ≤ hi)))) (.inr rfl) Tryz.results18 rfl k2_6 ?_
 exact ⟨rfl, fB2⟩
end Go.Proofs.YthnediamopehfaaGreat
