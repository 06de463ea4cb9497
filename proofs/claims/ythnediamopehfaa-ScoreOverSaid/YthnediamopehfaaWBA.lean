/- Part of the proof: what the claim leans on. -/
import Derived.Test.YthnediamopehfaaWAZ
import Derived.Test.YthnediamopehfaaWAX
import Derived.Test.YthnediamopehfaaWAY
import Derived.Test.YthnediamopehfaaWAP
set_option linter.unusedSimpArgs false
set_option linter.unusedVariables false
namespace Go.Proofs.Ythnediamopehfaa
open Go.RowKit
/-- Blank: the errors of what comes in ahead. -/
def blankAll (w : Wi) (clo chi tab : Int) : Bl × Int × Int :=
  let z : Bl := ⟨0, [], 0, [], [], 0, false⟩
  if (wishErr w == 0) = true then
    if (checkedErr [] [(clo, chi)] != 0) = true then (z, 0, checkedErr [] [(clo, chi)]) else
    if (!(within 0 100 [tab])) = true then (z, 0, 5) else blankOf w clo chi tab
  else (z, 0, wishErr w)
theorem pp_block {W : World} {g : Nat} {t : TypeId} {xs : List (Int × Int)} {n : Nat} (h : W.heap[g]? = some (.cells (xs.flatMap fun x => [Value.int .i64 x.1, Value.int .i64 x.2]).toArray t (0, 0))) (hn : n = xs.length) (hm : decide (n ≤ 1000) = true) : Pp W (some ⟨g, 0, none⟩) n n xs := by
  subst hn
  have hm' := of_decide_eq_true hm
  refine ⟨rfl, Nat.le_refl _, by unfold maxLen; omega, by simp, .inr ⟨g, 0, rfl, lt_of_blk h, fun i hi => ?_⟩⟩
  have := Joins.cell_of_block h (0 + i)
  rw [Nat.zero_add] at this ⊢
  rw [this]
  rw [List.getElem?_toArray, List.getElem?_eq_getElem hi, List.getD_eq_getElem?_getD, List.getElem?_eq_getElem hi]
  rfl
set_option maxRecDepth 100000 in
set_option maxHeartbeats 1000000 in
theorem blank_good (l1 h1 l2 h2 l3 h3 l4 h4 l5 h5 clo chi : Int) (wo : Bool) (tab : Int) (w : World) (hw1 : (wishErr ⟨(l1, h1), (l2, h2), (l3, h3), (l4, h4), (l5, h5), wo⟩ == 0) = true) (hc1 : (checkedErr [] [(clo, chi)] != 0) = false) (hc2 : (!(within 0 100 [tab])) = false) (he : (blankOf ⟨(l1, h1), (l2, h2), (l3, h3), (l4, h4), (l5, h5), wo⟩ clo chi tab).2.2 = 0) :
  Calls Try.prog 33 #[.agg #[.int .i64 l1, .int .i64 h1, .int .i64 l2, .int .i64 h2, .int .i64 l3, .int .i64 h3, .int .i64 l4, .int .i64 h4, .int .i64 l5, .int .i64 h5, .bool wo], .agg #[.int .i64 clo, .int .i64 chi], .int .i64 tab] w (BlankP (blankAll ⟨(l1, h1), (l2, h2), (l3, h3), (l4, h4), (l5, h5), wo⟩ clo chi tab) w) := by
 have hw0 : wishErr ⟨(l1, h1), (l2, h2), (l3, h3), (l4, h4), (l5, h5), wo⟩ = 0 := by simpa using hw1
 have hw2 : (wishErr ⟨(l1, h1), (l2, h2), (l3, h3), (l4, h4), (l5, h5), wo⟩ != 0) = false := by simp [hw0]
 obtain ⟨-, hsp⟩ := checked_split (bs := []) (cs := [(clo, chi)]) (by simpa using hc1)
 have hsb := span_bounds (hsp (clo, chi) (by simp))
 simp only at hsb
 obtain ⟨R_, hR_⟩ : ∃ r, r = blankOf ⟨(l1, h1), (l2, h2), (l3, h3), (l4, h4), (l5, h5), wo⟩ clo chi tab := ⟨_, rfl⟩
 have hs : blankAll ⟨(l1, h1), (l2, h2), (l3, h3), (l4, h4), (l5, h5), wo⟩ clo chi tab = R_ := by simp only [blankAll, hw1, hc1, hc2, if_true, if_false, Bool.false_eq_true]; exact hR_.symm
 rw [hs]
 refine calls_fr Try.func33 Try.ntmps33 rfl rfl fun g hg => ?_
 have k0 : g 0 = .agg #[.int .i64 l1, .int .i64 h1, .int .i64 l2, .int .i64 h2, .int .i64 l3, .int .i64 h3, .int .i64 l4, .int .i64 h4, .int .i64 l5, .int .i64 h5, .bool wo] := hg 0
 have k1 : g 1 = .agg #[.int .i64 clo, .int .i64 chi] := hg 1
 have k2 : g 2 = .int .i64 tab := hg 2
 clear hg
 have fB0 : Below w.heap.size w w := Below.refl _ _
 refine wp_seq_k fun K1 hK1 => ?_
 refine region_dk 5 [(3, 0), (4, 1), (6, 2), (7, 3), (8, 4)] [[], [], [], [], [3]] (rel [bx 0 #[.int .i64 l1, .int .i64 h1, .int .i64 l2, .int .i64 h2, .int .i64 l3, .int .i64 h3, .int .i64 l4, .int .i64 h4, .int .i64 l5, .int .i64 h5, .bool wo] 69,
   bx 1 #[.int .i64 clo, .int .i64 chi] 37,
   bx 2 #[.int .i64 0, .slice (none) (0) (0), .int .i64 0, .slice (none) (0) (0), .slice (none) (0) (0), .int .i64 0, .bool false] 24,
   is (.int .i64 0),
   is (.int .i64 0)])
  ⟨bx_k, bx_k, bx_k, is_k, is_k, trivial⟩
  ⟨fun f s W c d hs i j a => opb rfl rfl (by simp [go_sem, a.e 0 k0]),
  fun f s W c d hs i j a => opb rfl rfl (by simp [go_sem, a.e 1 k1]),
  fun f s W c d hs i j a => opb rfl rfl (by simp [go_sem]),
  fun f s W c d hs i j a => opv rfl rfl (by simp [go_sem]) rfl,
  fun f s W c d hs i j a => opv rfl rfl (by simp [go_sem]) rfl, trivial⟩ ?_
 intro f1 s1 W1 hB1 g1 hg1
 have fB1 := hB1.f fB0
 have z1 := hB1.below.size
 obtain ⟨r1_0, br1_0⟩ := hB1.is 0
 have lr1_0 := hB1.lr 0 br1_0
 obtain ⟨r1_1, br1_1⟩ := hB1.is 1
 have lr1_1 := hB1.lr 1 br1_1
 obtain ⟨r1_2, br1_2⟩ := hB1.is 2
 have lr1_2 := hB1.lr 2 br1_2
 have ne1_0_1 : s1 0 ≠ s1 1 := hB1.ne 0 1 (by decide) (by decide) (by decide) (fun _ _ _ h => lt_of_blk h.2) (fun _ _ _ h => lt_of_blk h.2)
 have ne1_0_2 : s1 0 ≠ s1 2 := hB1.ne 0 2 (by decide) (by decide) (by decide) (fun _ _ _ h => lt_of_blk h.2) (fun _ _ _ h => lt_of_blk h.2)
 have ne1_1_2 : s1 1 ≠ s1 2 := hB1.ne 1 2 (by decide) (by decide) (by decide) (fun _ _ _ h => lt_of_blk h.2) (fun _ _ _ h => lt_of_blk h.2)
 refine hK1 _ _ ?_
 have k1_2 := kt hg1 2 k2
 have k1_3 := kt hg1 3 r1_0
 have k1_4 := kt hg1 4 r1_1
 have k1_6 := kt hg1 6 r1_2
 have k1_7 := kt hg1 7 (hB1.is 3)
 have k1_8 := kt hg1 8 (hB1.is 4)
 refine wp_seq_k fun K2 hK2 => ?_
 refine region_dk 3 [(9, 0), (10, 1), (8, 2)] [[], [0], [0, 1]] (rel [is (.agg #[.int .i64 l1, .int .i64 h1, .int .i64 l2, .int .i64 h2, .int .i64 l3, .int .i64 h3, .int .i64 l4, .int .i64 h4, .int .i64 l5, .int .i64 h5, .bool wo]),
   is (.int .i64 (wishErr ⟨(l1, h1), (l2, h2), (l3, h3), (l4, h4), (l5, h5), wo⟩)),
   is (.int .i64 (wishErr ⟨(l1, h1), (l2, h2), (l3, h3), (l4, h4), (l5, h5), wo⟩))])
  ⟨is_k, is_k, is_k, trivial⟩
  ⟨fun f s W c d hs i j a => opv rfl rfl (by simp [go_sem, a.e 3 k1_3, cb br1_0 c 0, cb br1_0 c 1, cb br1_0 c 2, cb br1_0 c 3, cb br1_0 c 4, cb br1_0 c 5, cb br1_0 c 6, cb br1_0 c 7, cb br1_0 c 8, cb br1_0 c 9, cb br1_0 c 10]) rfl,
  fun f s W c d hs i j a => opc rfl rfl (by simp [go_sem, a.e 9 (d 0 rfl)]) (wish_any l1 h1 l2 h2 l3 h3 l4 h4 l5 h5 wo W),
  fun f s W c d hs i j a => opv rfl rfl (by simp [go_sem, a.e 10 (d 1 rfl)]) rfl, trivial⟩ ?_
 intro f2 s2 W2 hB2 g2 hg2
 have fB2 := hB2.f fB1
 have z2 := hB2.below.size
 have b2_0 := hB2.b br1_0
 have b2_1 := hB2.b br1_1
 have b2_2 := hB2.b br1_2
 refine hK2 _ _ ?_
 have k2_2 := kt hg2 2 k1_2
 have k2_3 := kt hg2 3 k1_3
 have k2_4 := kt hg2 4 k1_4
 have k2_6 := kt hg2 6 k1_6
 have k2_7 := kt hg2 7 k1_7
 have k2_8 := kt hg2 8 (hB2.is 2)
 refine wp_seq_k fun K3 hK3 => ?_
 refine wp_seq_k fun K4 hK4 => ?_
 refine region_dk 2 [(11, 0), (12, 1)] [[], [0]] (rel [is (.int .i64 (wishErr ⟨(l1, h1), (l2, h2), (l3, h3), (l4, h4), (l5, h5), wo⟩)),
   is (.bool ((wishErr ⟨(l1, h1), (l2, h2), (l3, h3), (l4, h4), (l5, h5), wo⟩) == 0))])
  ⟨is_k, is_k, trivial⟩
  ⟨fun f s W c d hs i j a => opv rfl rfl (by simp [go_sem, a.e 8 k2_8]) rfl,
  fun f s W c d hs i j a => opv rfl rfl (by simp [go_sem, a.e 11 (d 0 rfl)]) rfl, trivial⟩ ?_
 intro f3 s3 W3 hB3 g3 hg3
 have fB3 := hB3.f fB2
 have z3 := hB3.below.size
 have b3_0 := hB3.b b2_0
 have b3_1 := hB3.b b2_1
 have b3_2 := hB3.b b2_2
 refine hK4 _ _ ?_
 have k3_2 := kt hg3 2 k2_2
 have k3_3 := kt hg3 3 k2_3
 have k3_4 := kt hg3 4 k2_4
 have k3_6 := kt hg3 6 k2_6
 have k3_7 := kt hg3 7 k2_7
 have k3_8 := kt hg3 8 k2_8
 have k3_12 := kt hg3 12 (hB3.is 1)
 have hc5 : (fr 35 g3).eval (.tmp 12) = .bool true := ((fr_eval rfl).trans k3_12).trans (by rw [hw1])
 refine wp_cond_true (hc5) ?_
 refine region_dk 4 [(13, 0), (14, 1), (15, 2), (8, 3)] [[], [0], [0, 1], [0, 1, 2]] (rel [is (.agg #[.int .i64 clo, .int .i64 chi]),
   row 1 1 #[.int .i64 clo, .int .i64 chi] 37,
   is (.int .i64 (checkedErr [] [(clo, chi)])),
   is (.int .i64 (checkedErr [] [(clo, chi)]))])
  ⟨is_k, row_k, is_k, is_k, trivial⟩
  ⟨fun f s W c d hs i j a => opv rfl rfl (by simp [go_sem, a.e 4 k3_4, cb b3_1 c 0, cb b3_1 c 1]) rfl,
  fun f s W c d hs i j a => opr rfl rfl (by simp [go_sem, a.e 13 (d 0 rfl)]),
  fun f s W c d hs i j a => opc (args := #[.slice (none) (0) (0), .slice (some ⟨(s 1), 0, none⟩) (1) (1)]) rfl rfl (by simp [go_sem, a.e 14 (d 1 rfl).1]) (checked_none _ _ _ [(clo, chi)] W (pp_block (xs := [(clo, chi)]) (d 1 rfl).2 rfl rfl)),
  fun f s W c d hs i j a => opv rfl rfl (by simp [go_sem, a.e 15 (d 2 rfl)]) rfl, trivial⟩ ?_
 intro f4 s4 W4 hB4 g4 hg4
 have fB4 := hB4.f fB3
 have z4 := hB4.below.size
 have b4_0 := hB4.b b3_0
 have b4_1 := hB4.b b3_1
 have b4_2 := hB4.b b3_2
 obtain ⟨r4_1, br4_1⟩ := hB4.is 1
 have lr4_1 := hB4.lr 1 br4_1
 refine hK3 _ _ ?_
 have k4_2 := kt hg4 2 k3_2
 have k4_3 := kt hg4 3 k3_3
 have k4_4 := kt hg4 4 k3_4
 have k4_6 := kt hg4 6 k3_6
 have k4_7 := kt hg4 7 k3_7
 have k4_8 := kt hg4 8 (hB4.is 3)
 refine wp_seq_k fun K6 hK6 => ?_
 refine wp_block ?_
 refine wp_seq_k fun K7 hK7 => ?_
 refine region_dk 3 [(17, 0), (18, 1), (16, 2)] [[], [0], [0, 1]] (rel [is (.int .i64 (checkedErr [] [(clo, chi)])),
   is (.bool ((checkedErr [] [(clo, chi)]) != 0)),
   is (.bool ((checkedErr [] [(clo, chi)]) != 0))])
  ⟨is_k, is_k, is_k, trivial⟩
  ⟨fun f s W c d hs i j a => opv rfl rfl (by simp [go_sem, a.e 8 k4_8]) rfl,
  fun f s W c d hs i j a => opv rfl rfl (by simp [go_sem, a.e 17 (d 0 rfl)]) rfl,
  fun f s W c d hs i j a => opv rfl rfl (by simp [go_sem, a.e 18 (d 1 rfl)]) rfl, trivial⟩ ?_
 intro f5 s5 W5 hB5 g5 hg5
 have fB5 := hB5.f fB4
 have z5 := hB5.below.size
 have b5_0 := hB5.b b4_0
 have b5_1 := hB5.b b4_1
 have b5_2 := hB5.b b4_2
 have b5_3 := hB5.b br4_1
 refine hK7 _ _ ?_
 have k5_2 := kt hg5 2 k4_2
 have k5_3 := kt hg5 3 k4_3
 have k5_4 := kt hg5 4 k4_4
 have k5_6 := kt hg5 6 k4_6
 have k5_7 := kt hg5 7 k4_7
 have k5_8 := kt hg5 8 k4_8
 have k5_16 := kt hg5 16 (hB5.is 2)
 have hc8 : (fr 35 g5).eval (.tmp 16) = .bool false := ((fr_eval rfl).trans k5_16).trans (by rw [hc1])
 refine wp_cond_false (hc8) ?_
 refine wp_seq_k fun K9 hK9 => ?_
 refine region_dk 5 [(22, 0), (23, 1), (24, 2), (25, 3), (21, 4)] [[], [0], [0, 1], [0, 1, 2], [0, 1, 2, 3]] (rel [is (.int .i64 tab),
   row 1 1 #[.int .i64 tab] 3,
   is (.bool (within 0 100 [tab])),
   is (.bool (!(within 0 100 [tab]))),
   is (.bool (!(within 0 100 [tab])))])
  ⟨is_k, row_k, is_k, is_k, is_k, trivial⟩
  ⟨fun f s W c d hs i j a => opv rfl rfl (by simp [go_sem, a.e 2 k5_2]) rfl,
  fun f s W c d hs i j a => opr rfl rfl (by simp [go_sem, a.e 22 (d 0 rfl)]),
  fun f s W c d hs i j a => opc (args := #[.int .i64 0, .int .i64 100, .slice (some ⟨(s 1), 0, none⟩) (1) (1)]) rfl rfl (by simp [go_sem, a.e 23 (d 1 rfl).1]) (within_any 0 100 _ _ _ [tab] W (ii_block (xs := [tab]) (d 1 rfl).2 rfl rfl)),
  fun f s W c d hs i j a => opv rfl rfl (by simp [go_sem, a.e 24 (d 2 rfl)]) rfl,
  fun f s W c d hs i j a => opv rfl rfl (by simp [go_sem, a.e 25 (d 3 rfl)]) rfl, trivial⟩ ?_
 intro f6 s6 W6 hB6 g6 hg6
 have fB6 := hB6.f fB5
 have z6 := hB6.below.size
 have b6_0 := hB6.b b5_0
 have b6_1 := hB6.b b5_1
 have b6_2 := hB6.b b5_2
 have b6_3 := hB6.b b5_3
 obtain ⟨r6_1, br6_1⟩ := hB6.is 1
 have lr6_1 := hB6.lr 1 br6_1
 refine hK9 _ _ ?_
 have k6_2 := kt hg6 2 k5_2
 have k6_3 := kt hg6 3 k5_3
 have k6_4 := kt hg6 4 k5_4
 have k6_6 := kt hg6 6 k5_6
 have k6_7 := kt hg6 7 k5_7
 have k6_8 := kt hg6 8 k5_8
 have k6_21 := kt hg6 21 (hB6.is 4)
 have hc10 : (fr 35 g6).eval (.tmp 21) = .bool false := ((fr_eval rfl).trans k6_21).trans (by rw [hc2])
 refine wp_cond_false (hc10) ?_
 refine wp_skip ?_
 refine inBlock_normal ?_
 refine hK6 _ _ ?_
 refine wp_seq_k fun K11 hK11 => ?_
 refine region_dk 8 [(27, 0), (28, 1), (29, 2), (30, 3), (31, 4), (32, 5), (33, 6), (34, 7), (7, 9), (8, 10)] [[], [], [0, 1], [], [0, 1, 2, 3], [0, 1, 2, 3, 4], [0, 1, 2, 3, 4], [0, 1, 2, 3, 4], [0, 1, 2, 3, 4, 5, 6, 7], [0, 1, 2, 3, 4, 5, 6, 7, 8], [0, 1, 2, 3, 4, 5, 6, 7, 8, 9]] (rel [is (.agg #[.int .i64 l1, .int .i64 h1, .int .i64 l2, .int .i64 h2, .int .i64 l3, .int .i64 h3, .int .i64 l4, .int .i64 h4, .int .i64 l5, .int .i64 h5, .bool wo]),
   is (.agg #[.int .i64 clo, .int .i64 chi]),
   is (.agg #[.int .i64 l1, .int .i64 h1, .int .i64 l2, .int .i64 h2, .int .i64 l3, .int .i64 h3, .int .i64 l4, .int .i64 h4, .int .i64 l5, .int .i64 h5, .bool wo, .int .i64 clo, .int .i64 chi]),
   is (.int .i64 tab),
   fun v s W => ∃ x0, v = .tuple #[x0, .int .i64 R_.2.1, .int .i64 R_.2.2] ∧ NwBlk (s 4) (R_.1) x0 W,
   fun v s W => NwBlk (s 4) (R_.1) v W,
   is (.int .i64 R_.2.1),
   is (.int .i64 R_.2.2)])
  ⟨is_k, is_k, is_k, is_k, ⟨fun v k W W' hb ⟨x0, e, h0⟩ => ⟨x0, e, h0.below hb⟩, fun v s s' W e ⟨x0, e1, h0⟩ => ⟨x0, e1, (e 4 (by simp)) ▸ h0⟩⟩, ⟨fun v k W W' hb h => h.below hb, fun v s s' W e h => by have h' : NwBlk (s 4) (R_.1) v W := h; show NwBlk (s' 4) (R_.1) v W; rw [← e 4 (by simp)]; exact h'⟩, is_k, is_k, trivial⟩
  ⟨fun f s W c d hs i j a => opv rfl rfl (by simp [go_sem, a.e 3 k6_3, cb b6_0 c 0, cb b6_0 c 1, cb b6_0 c 2, cb b6_0 c 3, cb b6_0 c 4, cb b6_0 c 5, cb b6_0 c 6, cb b6_0 c 7, cb b6_0 c 8, cb b6_0 c 9, cb b6_0 c 10]) rfl,
  fun f s W c d hs i j a => opv rfl rfl (by simp [go_sem, a.e 4 k6_4, cb b6_1 c 0, cb b6_1 c 1]) rfl,
  fun f s W c d hs i j a => opv rfl rfl (by simp [go_sem, a.e 27 (d 0 rfl), a.e 28 (d 1 rfl)]) rfl,
  fun f s W c d hs i j a => opv rfl rfl (by simp [go_sem, a.e 2 k6_2]) rfl,
  fun f s W c d hs i j a => opDo_call (args := #[.agg #[.int .i64 l1, .int .i64 h1, .int .i64 l2, .int .i64 h2, .int .i64 l3, .int .i64 h3, .int .i64 l4, .int .i64 h4, .int .i64 l5, .int .i64 h5, .bool wo, .int .i64 clo, .int .i64 chi], .int .i64 tab]) rfl rfl (by simp [go_sem, a.e 29 (d 2 rfl), a.e 30 (d 3 rfl)]) (hR_ ▸ make_any l1 h1 l2 h2 l3 h3 l4 h4 l5 h5 clo chi wo tab W (wish_in hw0) (by omega) (by omega) (by omega) (by omega)) (fun e W' h => by obtain ⟨v, e1, h1, h2⟩ := h.1 (hR_ ▸ he); exact ⟨_, e1, h2, v, rfl, (show NwBlk (upd s 4 W.heap.size 4) (R_.1) v W' from by rw [upd_at]; exact h1)⟩),
  fun f s W c d hs i j a => by obtain ⟨x4_0, d4, p4_0⟩ := (d 4 rfl); exact opv (v := x4_0) rfl rfl (by simp [go_sem, a.e 31 d4]) p4_0,
  fun f s W c d hs i j a => by obtain ⟨x4_0, d4, p4_0⟩ := (d 4 rfl); exact opv rfl rfl (by simp [go_sem, a.e 31 d4]) rfl,
  fun f s W c d hs i j a => by obtain ⟨x4_0, d4, p4_0⟩ := (d 4 rfl); exact opv rfl rfl (by simp [go_sem, a.e 31 d4]) rfl, trivial⟩ ?_
 intro f7 s7 W7 hB7 g7 hg7
 have fB7 := hB7.f fB6
 have z7 := hB7.below.size
 have b7_0 := hB7.b b6_0
 have b7_1 := hB7.b b6_1
 have b7_2 := hB7.b b6_2
 have b7_3 := hB7.b b6_3
 have b7_4 := hB7.b br6_1
 have la7_5_4 := hB7.from' 4 (by decide)
 obtain ⟨g1', c4', g2', c5', g3', c6', r7_5, ⟨q7', q9', q8'⟩, ⟨q10', q12', q11'⟩, ⟨q13', q15', q14'⟩⟩ := hB7.is 5
 have k7_6 := kt hg7 6 k6_6
 have k7_32 := kt hg7 32 r7_5
 have k7_33 := kt hg7 33 (hB7.is 6)
 have k7_34 := kt hg7 34 (hB7.is 7)
 obtain ⟨W8, hW8⟩ : ∃ W', W' = W7.setRow (s1 2) #[.int .i64 R_.1.tab, .slice (some ⟨g1', 0, none⟩) (R_.1.panels.length) (c4'), .int .i64 R_.1.height, .slice (some ⟨g2', 0, none⟩) (R_.1.top.length) (c5'), .slice (some ⟨g3', 0, none⟩) (R_.1.bottom.length) (c6'), .int .i64 R_.1.slot, .bool R_.1.isOpen] := ⟨_, rfl⟩
 refine tail_skip (o := _) rfl ⟨rfl, rfl⟩ (run_seg hW8 (fr_ev k7_6) (fr_ev k7_32) b7_2 rfl rfl rfl rfl) ?_
 obtain ⟨fB8, nb8, ot8, z8⟩ := seg_facts hW8 fB7 b7_2 (by omega)
 clear hW8
 have b8_0 := ot8 _ _ (by omega) b7_0
 have b8_1 := ot8 _ _ (by omega) b7_1
 have b8_3 := ot8 _ _ (by omega) b7_3
 have b8_4 := ot8 _ _ (by omega) b7_4
 have q16' := (q7'.other ot8 q8' (by omega) z8)
 have q17' := Nat.lt_of_lt_of_le q8' z8
 have q18' := (q10'.other ot8 q11' (by omega) z8)
 have q19' := Nat.lt_of_lt_of_le q11' z8
 have q20' := (q13'.other ot8 q14' (by omega) z8)
 have q21' := Nat.lt_of_lt_of_le q14' z8
 refine tail_value (o := _) rfl rfl rfl (v := .int .i64 R_.2.1) (by simp [go_sem, frv 35 k7_33]) ?_
 generalize hg9 : upd g7 7 (.int .i64 R_.2.1) = g9
 have k9_6 := ku hg9 6 k7_6
 have k9_34 := ku hg9 34 k7_34
 have k9_7 := kt hg9 7 (upd_same _ _ _)
 refine tail_value (o := _) rfl rfl rfl (v := .int .i64 R_.2.2) (by simp [go_sem, frv 35 k9_34]) ?_
 generalize hg10 : upd g9 8 (.int .i64 R_.2.2) = g10
 have k10_6 := ku hg10 6 k9_6
 have k10_7 := ku hg10 7 k9_7
 have k10_8 := kt hg10 8 (upd_same _ _ _)
 refine wpOps_end ?_
 refine hK11 _ _ ?_
 refine wp_ret ?_
 refine leave_gen (v := .tuple #[.agg #[.int .i64 R_.1.tab, .slice (some ⟨g1', 0, none⟩) (R_.1.panels.length) (c4'), .int .i64 R_.1.height, .slice (some ⟨g2', 0, none⟩) (R_.1.top.length) (c5'), .slice (some ⟨g3', 0, none⟩) (R_.1.bottom.length) (c6'), .int .i64 R_.1.slot, .bool R_.1.isOpen], .int .i64 R_.2.1, .int .i64 R_.2.2]) (.inr rfl) (by simp [results, Try.results33, go_sem, frv 35 k10_6, cl nb8 0, cl nb8 1, cl nb8 2, cl nb8 3, cl nb8 4, cl nb8 5, cl nb8 6, frv 35 k10_7, frv 35 k10_8]) ?_
 exact ⟨fun _ => ⟨_, rfl, ⟨_, _, _, _, _, _, rfl, ⟨q16', by omega, q17'⟩, ⟨q18', by omega, q19'⟩, ⟨q20', by omega, q21'⟩⟩, fB8⟩, fun h => absurd (hR_ ▸ he) h⟩
end Go.Proofs.Ythnediamopehfaa
namespace Go.Proofs.Ythnediamopehfaa
open Go.RowKit
def mayFrom (f : Int → Bool) : Nat → Int → Int × Int
  | 0, _ => (0, 9)
  | n + 1, c => if f c = true then (c, 0) else mayFrom f n (c + 1)
/-- The least caliper, and the error. -/
def mayOf (b : Bl) (w : Wi) (lo hi off : Int) : Int × Int :=
  if (wishedErr b w [(lo, hi)] != 0) = true then (0, wishedErr b w [(lo, hi)]) else if (!(within 0 5 [off])) = true then (0, 7) else mayFrom (closesOf b w off) (hi + 1 - lo).toNat lo
set_option maxRecDepth 100000 in
set_option maxHeartbeats 2000000 in
theorem may_false (l1 h1 l2 h2 l3 h3 l4 h4 l5 h5 lo hi off : Int) (wo : Bool)  (p0 p1 p2 p3 v0 v1 v2 v3 tab hh slot : Int) (bp ox cp q0 o0 m0 q1 o1 m1 : Nat) (w : World) (hw : WishIn ⟨(l1, h1), (l2, h2), (l3, h3), (l4, h4), (l5, h5), wo⟩) (hP : Ii w (some ⟨bp, ox, none⟩) 4 cp [p0, p1, p2, p3]) (hI0 : Ii w (some ⟨q0, o0, none⟩) 2 m0 [v0, v1]) (hI1 : Ii w (some ⟨q1, o1, none⟩) 2 m1 [v2, v3]) (hpp : ∀ x ∈ [p0, p1, p2, p3], 1 ≤ x ∧ x ≤ 3000) (hv0 : 0 ≤ v0) (hv0' : v0 ≤ 3000) (hv1 : 0 ≤ v1) (hv1' : v1 ≤ 3000) (hv2 : 0 ≤ v2) (hv2' : v2 ≤ 3000) (hv3 : 0 ≤ v3) (hv3' : v3 ≤ 3000) (hlo : 1 ≤ lo) (hhi : hi ≤ 10000) (ho1 : 0 ≤ off) (ho2 : off ≤ 5) (hh1 : 1 ≤ hh) (hh2 : hh ≤ 3000) (hs1 : 0 ≤ slot) (hs2 : slot ≤ 20) (k : (wishedErr ⟨tab, [p0, p1, p2, p3], hh, [v2, v3], [v0, v1], slot, false⟩ ⟨(l1, h1), (l2, h2), (l3, h3), (l4, h4), (l5, h5), wo⟩ [(lo, hi)] != 0) = false) (hof : (!(within 0 5 [off])) = false) (hwo : wo = false) :
  Calls Try.prog 34 #[.agg #[.int .i64 tab, .slice (some ⟨bp, ox, none⟩) (4) (cp), .int .i64 hh, .slice (some ⟨q1, o1, none⟩) (2) (m1), .slice (some ⟨q0, o0, none⟩) (2) (m0), .int .i64 slot, .bool false], .agg #[.int .i64 l1, .int .i64 h1, .int .i64 l2, .int .i64 h2, .int .i64 l3, .int .i64 h3, .int .i64 l4, .int .i64 h4, .int .i64 l5, .int .i64 h5, .bool wo], .agg #[.int .i64 lo, .int .i64 hi], .int .i64 off] w (fun e w' => e = .returned (.tuple #[.int .i64 (mayOf ⟨tab, [p0, p1, p2, p3], hh, [v2, v3], [v0, v1], slot, false⟩ ⟨(l1, h1), (l2, h2), (l3, h3), (l4, h4), (l5, h5), wo⟩ lo hi off).1, .int .i64 (mayOf ⟨tab, [p0, p1, p2, p3], hh, [v2, v3], [v0, v1], slot, false⟩ ⟨(l1, h1), (l2, h2), (l3, h3), (l4, h4), (l5, h5), wo⟩ lo hi off).2]) ∧ Below w.heap.size w w') := by
 have hm : mayOf ⟨tab, [p0, p1, p2, p3], hh, [v2, v3], [v0, v1], slot, false⟩ ⟨(l1, h1), (l2, h2), (l3, h3), (l4, h4), (l5, h5), wo⟩ lo hi off = mayFrom (closesOf ⟨tab, [p0, p1, p2, p3], hh, [v2, v3], [v0, v1], slot, false⟩ ⟨(l1, h1), (l2, h2), (l3, h3), (l4, h4), (l5, h5), wo⟩ off) (hi + 1 - lo).toNat lo := by simp only [mayOf, k, hof, if_false, Bool.false_eq_true]
 obtain ⟨F_, hF_⟩ : ∃ F, F = closesOf ⟨tab, [p0, p1, p2, p3], hh, [v2, v3], [v0, v1], slot, false⟩ ⟨(l1, h1), (l2, h2), (l3, h3), (l4, h4), (l5, h5), wo⟩ off := ⟨_, rfl⟩
 rw [hm, ← hF_]
 refine calls_fr Try.func34 Try.ntmps34 rfl rfl fun g hg => ?_
 have k0 : g 0 = .agg #[.int .i64 tab, .slice (some ⟨bp, ox, none⟩) (4) (cp), .int .i64 hh, .slice (some ⟨q1, o1, none⟩) (2) (m1), .slice (some ⟨q0, o0, none⟩) (2) (m0), .int .i64 slot, .bool false] := hg 0
 have k1 : g 1 = .agg #[.int .i64 l1, .int .i64 h1, .int .i64 l2, .int .i64 h2, .int .i64 l3, .int .i64 h3, .int .i64 l4, .int .i64 h4, .int .i64 l5, .int .i64 h5, .bool wo] := hg 1
 have k2 : g 2 = .agg #[.int .i64 lo, .int .i64 hi] := hg 2
 have k3 : g 3 = .int .i64 off := hg 3
 clear hg
 have fB0 : Below w.heap.size w w := Below.refl _ _
 refine wp_seq_k fun K1 hK1 => ?_
 refine region_dk 5 [(4, 0), (5, 1), (6, 2), (8, 3), (9, 4)] [[], [], [], [], [3]] (rel [bx 0 #[.int .i64 tab, .slice (some ⟨bp, ox, none⟩) (4) (cp), .int .i64 hh, .slice (some ⟨q1, o1, none⟩) (2) (m1), .slice (some ⟨q0, o0, none⟩) (2) (m0), .int .i64 slot, .bool false] 24,
   bx 1 #[.int .i64 l1, .int .i64 h1, .int .i64 l2, .int .i64 h2, .int .i64 l3, .int .i64 h3, .int .i64 l4, .int .i64 h4, .int .i64 l5, .int .i64 h5, .bool wo] 69,
   bx 2 #[.int .i64 lo, .int .i64 hi] 37,
   is (.int .i64 0),
   is (.int .i64 0)])
  ⟨bx_k, bx_k, bx_k, is_k, is_k, trivial⟩
  ⟨fun f s W d i j k l a => opb rfl rfl (by simp [go_sem, a.e 0 k0]),
  fun f s W d i j k l a => opb rfl rfl (by simp [go_sem, a.e 1 k1]),
  fun f s W d i j k l a => opb rfl rfl (by simp [go_sem, a.e 2 k2]),
  fun f s W d i j k l a => opv rfl rfl (by simp [go_sem]) rfl,
  fun f s W d i j k l a => opv rfl rfl (by simp [go_sem]) rfl, trivial⟩ ?_
 intro f1 s1 W1 hB1 g1 hg1
 have fB1 := hB1.f fB0
 have z1 := hB1.below.size
 obtain ⟨r1_0, br1_0⟩ := hB1.is 0
 have lr1_0 := hB1.lr 0 br1_0
 obtain ⟨r1_1, br1_1⟩ := hB1.is 1
 have lr1_1 := hB1.lr 1 br1_1
 obtain ⟨r1_2, br1_2⟩ := hB1.is 2
 have lr1_2 := hB1.lr 2 br1_2
 have ne1_0_1 : s1 0 ≠ s1 1 := hB1.ne 0 1 (by decide) (by decide) (by decide) (fun _ _ _ h => lt_of_blk h.2) (fun _ _ _ h => lt_of_blk h.2)
 have ne1_0_2 : s1 0 ≠ s1 2 := hB1.ne 0 2 (by decide) (by decide) (by decide) (fun _ _ _ h => lt_of_blk h.2) (fun _ _ _ h => lt_of_blk h.2)
 have ne1_1_2 : s1 1 ≠ s1 2 := hB1.ne 1 2 (by decide) (by decide) (by decide) (fun _ _ _ h => lt_of_blk h.2) (fun _ _ _ h => lt_of_blk h.2)
 refine hK1 _ _ ?_
 have k1_3 := kt hg1 3 k3
 have k1_4 := kt hg1 4 r1_0
 have k1_5 := kt hg1 5 r1_1
 have k1_6 := kt hg1 6 r1_2
 have k1_8 := kt hg1 8 (hB1.is 3)
 have k1_9 := kt hg1 9 (hB1.is 4)
 refine wp_seq_k fun K2 hK2 => ?_
 refine wp_seq_k fun K3 hK3 => ?_
 refine region_dk 6 [(13, 0), (14, 1), (15, 2), (16, 3), (17, 4), (10, 5)] [[], [], [], [2], [0, 1, 2, 3], [0, 1, 2, 3, 4]] (rel [is (.agg #[.int .i64 tab, .slice (some ⟨bp, ox, none⟩) (4) (cp), .int .i64 hh, .slice (some ⟨q1, o1, none⟩) (2) (m1), .slice (some ⟨q0, o0, none⟩) (2) (m0), .int .i64 slot, .bool false]),
   is (.agg #[.int .i64 l1, .int .i64 h1, .int .i64 l2, .int .i64 h2, .int .i64 l3, .int .i64 h3, .int .i64 l4, .int .i64 h4, .int .i64 l5, .int .i64 h5, .bool wo]),
   is (.agg #[.int .i64 lo, .int .i64 hi]),
   row 3 1 #[.int .i64 lo, .int .i64 hi] 37,
   is (.int .i64 (wishedErr ⟨tab, [p0, p1, p2, p3], hh, [v2, v3], [v0, v1], slot, false⟩ ⟨(l1, h1), (l2, h2), (l3, h3), (l4, h4), (l5, h5), wo⟩ [(lo, hi)])),
   is (.int .i64 (wishedErr ⟨tab, [p0, p1, p2, p3], hh, [v2, v3], [v0, v1], slot, false⟩ ⟨(l1, h1), (l2, h2), (l3, h3), (l4, h4), (l5, h5), wo⟩ [(lo, hi)]))])
  ⟨is_k, is_k, is_k, row_k, is_k, is_k, trivial⟩
  ⟨fun f s W d i j k l a => opv rfl rfl (by simp [go_sem, a.e 4 k1_4, cb br1_0 d 0, cb br1_0 d 1, cb br1_0 d 2, cb br1_0 d 3, cb br1_0 d 4, cb br1_0 d 5, cb br1_0 d 6]) rfl,
  fun f s W d i j k l a => opv rfl rfl (by simp [go_sem, a.e 5 k1_5, cb br1_1 d 0, cb br1_1 d 1, cb br1_1 d 2, cb br1_1 d 3, cb br1_1 d 4, cb br1_1 d 5, cb br1_1 d 6, cb br1_1 d 7, cb br1_1 d 8, cb br1_1 d 9, cb br1_1 d 10]) rfl,
  fun f s W d i j k l a => opv rfl rfl (by simp [go_sem, a.e 6 k1_6, cb br1_2 d 0, cb br1_2 d 1]) rfl,
  fun f s W d i j k l a => opr rfl rfl (by simp [go_sem, a.e 15 (i 2 rfl)]),
  fun f s W d i j k l a => by have m := below_trans fB1 d; exact opc (args := #[.agg #[.int .i64 tab, .slice (some ⟨bp, ox, none⟩) (4) (cp), .int .i64 hh, .slice (some ⟨q1, o1, none⟩) (2) (m1), .slice (some ⟨q0, o0, none⟩) (2) (m0), .int .i64 slot, .bool false], .agg #[.int .i64 l1, .int .i64 h1, .int .i64 l2, .int .i64 h2, .int .i64 l3, .int .i64 h3, .int .i64 l4, .int .i64 h4, .int .i64 l5, .int .i64 h5, .bool wo], .slice (some ⟨(s 3), 0, none⟩) (1) (1)]) rfl rfl (by simp [go_sem, a.e 13 (i 0 rfl), a.e 14 (i 1 rfl), a.e 16 (i 3 rfl).1]) (wished_any _ ⟨tab, [p0, p1, p2, p3], hh, [v2, v3], [v0, v1], slot, false⟩ l1 h1 l2 h2 l3 h3 l4 h4 l5 h5 wo _ _ _ [(lo, hi)] W ⟨_, _, _, _, _, _, _, _, _, rfl, hP.below m (Nat.le_refl _), hI1.below m (Nat.le_refl _), hI0.below m (Nat.le_refl _)⟩ (pp_block (xs := [(lo, hi)]) (i 3 rfl).2 rfl rfl)),
  fun f s W d i j k l a => opv rfl rfl (by simp [go_sem, a.e 17 (i 4 rfl)]) rfl, trivial⟩ ?_
 intro f2 s2 W2 hB2 g2 hg2
 have fB2 := hB2.f fB1
 have z2 := hB2.below.size
 have b2_0 := hB2.b br1_0
 have b2_1 := hB2.b br1_1
 have b2_2 := hB2.b br1_2
 obtain ⟨r2_3, br2_3⟩ := hB2.is 3
 have lr2_3 := hB2.lr 3 br2_3
 refine hK3 _ _ ?_
 have k2_3 := kt hg2 3 k1_3
 have k2_4 := kt hg2 4 k1_4
 have k2_5 := kt hg2 5 k1_5
 have k2_6 := kt hg2 6 k1_6
 have k2_8 := kt hg2 8 k1_8
 have k2_9 := kt hg2 9 k1_9
 have k2_10 := kt hg2 10 (hB2.is 5)
 refine wp_block ?_
 refine wp_seq_k fun K4 hK4 => ?_
 refine region_dk 3 [(19, 0), (20, 1), (18, 2)] [[], [0], [0, 1]] (rel [is (.int .i64 (wishedErr ⟨tab, [p0, p1, p2, p3], hh, [v2, v3], [v0, v1], slot, false⟩ ⟨(l1, h1), (l2, h2), (l3, h3), (l4, h4), (l5, h5), wo⟩ [(lo, hi)])),
   is (.bool ((wishedErr ⟨tab, [p0, p1, p2, p3], hh, [v2, v3], [v0, v1], slot, false⟩ ⟨(l1, h1), (l2, h2), (l3, h3), (l4, h4), (l5, h5), wo⟩ [(lo, hi)]) != 0)),
   is (.bool ((wishedErr ⟨tab, [p0, p1, p2, p3], hh, [v2, v3], [v0, v1], slot, false⟩ ⟨(l1, h1), (l2, h2), (l3, h3), (l4, h4), (l5, h5), wo⟩ [(lo, hi)]) != 0))])
  ⟨is_k, is_k, is_k, trivial⟩
  ⟨fun f s W d i j k l a => opv rfl rfl (by simp [go_sem, a.e 10 k2_10]) rfl,
  fun f s W d i j k l a => opv rfl rfl (by simp [go_sem, a.e 19 (i 0 rfl)]) rfl,
  fun f s W d i j k l a => opv rfl rfl (by simp [go_sem, a.e 20 (i 1 rfl)]) rfl, trivial⟩ ?_
 intro f3 s3 W3 hB3 g3 hg3
 have fB3 := hB3.f fB2
 have z3 := hB3.below.size
 have b3_0 := hB3.b b2_0
 have b3_1 := hB3.b b2_1
 have b3_2 := hB3.b b2_2
 have b3_3 := hB3.b br2_3
 refine hK4 _ _ ?_
 have k3_3 := kt hg3 3 k2_3
 have k3_4 := kt hg3 4 k2_4
 have k3_5 := kt hg3 5 k2_5
 have k3_6 := kt hg3 6 k2_6
 have k3_8 := kt hg3 8 k2_8
 have k3_9 := kt hg3 9 k2_9
 have k3_10 := kt hg3 10 k2_10
 have k3_18 := kt hg3 18 (hB3.is 2)
 have hc5 : (fr 43 g3).eval (.tmp 18) = .bool false := ((fr_eval rfl).trans k3_18).trans (by rw [k])
 refine wp_cond_false (hc5) ?_
 refine wp_seq_k fun K6 hK6 => ?_
 refine region_dk 4 [(23, 0), (24, 1), (25, 2), (22, 3)] [[], [0], [0, 1], [0, 1, 2]] (rel [is (.int .i64 off),
   is (.bool (within 0 5 [off])),
   is (.bool (!(within 0 5 [off]))),
   is (.bool (!(within 0 5 [off])))])
  ⟨is_k, is_k, is_k, is_k, trivial⟩
  ⟨fun f s W d i j k l a => opv rfl rfl (by simp [go_sem, a.e 3 k3_3]) rfl,
  fun f s W d i j k l a => opc rfl rfl (by simp [go_sem, a.e 23 (i 0 rfl)]) (isOff_any off W),
  fun f s W d i j k l a => opv rfl rfl (by simp [go_sem, a.e 24 (i 1 rfl)]) rfl,
  fun f s W d i j k l a => opv rfl rfl (by simp [go_sem, a.e 25 (i 2 rfl)]) rfl, trivial⟩ ?_
 intro f4 s4 W4 hB4 g4 hg4
 have fB4 := hB4.f fB3
 have z4 := hB4.below.size
 have b4_0 := hB4.b b3_0
 have b4_1 := hB4.b b3_1
 have b4_2 := hB4.b b3_2
 have b4_3 := hB4.b b3_3
 refine hK6 _ _ ?_
 have k4_3 := kt hg4 3 k3_3
 have k4_4 := kt hg4 4 k3_4
 have k4_5 := kt hg4 5 k3_5
 have k4_6 := kt hg4 6 k3_6
 have k4_8 := kt hg4 8 k3_8
 have k4_9 := kt hg4 9 k3_9
 have k4_22 := kt hg4 22 (hB4.is 3)
 have hc7 : (fr 43 g4).eval (.tmp 22) = .bool false := ((fr_eval rfl).trans k4_22).trans (by rw [hof])
 refine wp_cond_false (hc7) ?_
 refine wp_skip ?_
 refine inBlock_normal ?_
 refine hK2 _ _ ?_
 refine wp_seq_k fun K8 hK8 => ?_
 refine region_dk 5 [(26, 0), (27, 1), (28, 2), (29, 3), (11, 4)] [[], [0], [], [0, 1, 2], [], [0, 1, 2, 3, 4]] (rel [is (.agg #[.int .i64 tab, .slice (some ⟨bp, ox, none⟩) (4) (cp), .int .i64 hh, .slice (some ⟨q1, o1, none⟩) (2) (m1), .slice (some ⟨q0, o0, none⟩) (2) (m0), .int .i64 slot, .bool false]),
   is (.agg #[.int .i64 tab, .slice (some ⟨bp, ox, none⟩) (4) (cp), .int .i64 hh, .slice (some ⟨q1, o1, none⟩) (2) (m1), .slice (some ⟨q0, o0, none⟩) (2) (m0), .int .i64 slot, .bool false]),
   is (.int .i64 off),
   is (.agg #[.int .i64 tab, .slice (some ⟨bp, ox, none⟩) (4) (cp), .int .i64 hh, .slice (some ⟨q1, o1, none⟩) (2) (m1), .slice (some ⟨q0, o0, none⟩) (2) (m0), .int .i64 slot, .bool false, .int .i64 off]),
   bx 4 #[.int .i64 0, .slice (none) (0) (0), .int .i64 0, .slice (none) (0) (0), .slice (none) (0) (0), .int .i64 0, .bool false, .int .i64 0] 104])
  ⟨is_k, is_k, is_k, is_k, bx_k, trivial⟩
  ⟨fun f s W d i j k l a => opv rfl rfl (by simp [go_sem, a.e 4 k4_4, cb b4_0 d 0, cb b4_0 d 1, cb b4_0 d 2, cb b4_0 d 3, cb b4_0 d 4, cb b4_0 d 5, cb b4_0 d 6]) rfl,
  fun f s W d i j k l a => opv rfl rfl (by simp [go_sem, a.e 26 (i 0 rfl)]) rfl,
  fun f s W d i j k l a => opv rfl rfl (by simp [go_sem, a.e 3 k4_3]) rfl,
  fun f s W d i j k l a => opv rfl rfl (by simp [go_sem, a.e 27 (i 1 rfl), a.e 28 (i 2 rfl)]) rfl,
  fun f s W d i j k l a => opb rfl rfl (by simp [go_sem]), trivial⟩ ?_
 intro f5 s5 W5 hB5 g5 hg5
 have fB5 := hB5.f fB4
 have z5 := hB5.below.size
 have b5_0 := hB5.b b4_0
 have b5_1 := hB5.b b4_1
 have b5_2 := hB5.b b4_2
 have b5_3 := hB5.b b4_3
 obtain ⟨r5_4, br5_4⟩ := hB5.is 4
 have lr5_4 := hB5.lr 4 br5_4
 have k5_5 := kt hg5 5 k4_5
 have k5_6 := kt hg5 6 k4_6
 have k5_8 := kt hg5 8 k4_8
 have k5_9 := kt hg5 9 k4_9
 have k5_29 := kt hg5 29 (hB5.is 3)
 have k5_11 := kt hg5 11 r5_4
 obtain ⟨W6, hW6⟩ : ∃ W', W' = W5.setRow (s5 4) #[.int .i64 tab, .slice (some ⟨bp, ox, none⟩) (4) (cp), .int .i64 hh, .slice (some ⟨q1, o1, none⟩) (2) (m1), .slice (some ⟨q0, o0, none⟩) (2) (m0), .int .i64 slot, .bool false, .int .i64 off] := ⟨_, rfl⟩
 refine tail_skip (o := _) rfl ⟨rfl, rfl⟩ (run_seg hW6 (fr_ev k5_11) (fr_ev k5_29) br5_4 rfl rfl rfl rfl) ?_
 obtain ⟨fB6, nb6, ot6, z6⟩ := seg_facts hW6 fB5 br5_4 (by omega)
 clear hW6
 have b6_0 := ot6 _ _ (by omega) b5_0
 have b6_1 := ot6 _ _ (by omega) b5_1
 have b6_2 := ot6 _ _ (by omega) b5_2
 have b6_3 := ot6 _ _ (by omega) b5_3
 refine wpOps_end ?_
 refine hK8 _ _ ?_
 refine wp_seq_k fun K9 hK9 => ?_
 refine wp_seq_k fun K10 hK10 => ?_
 refine region_dk 3 [(30, 0), (31, 1), (12, 2)] [[], [0], [0, 1]] (rel [is (.pointer (some ⟨(s1 2), 0, none⟩)),
   is (.int .i64 lo),
   is (.int .i64 lo)])
  ⟨is_k, is_k, is_k, trivial⟩
  ⟨fun f s W d i j k l a => opv rfl rfl (by simp [go_sem, a.e 6 k5_6]) rfl,
  fun f s W d i j k l a => opv rfl rfl (by simp [go_sem, a.e 30 (i 0 rfl), cb b6_2 d 0]) rfl,
  fun f s W d i j k l a => opv rfl rfl (by simp [go_sem, a.e 31 (i 1 rfl)]) rfl, trivial⟩ ?_
 intro f7 s7 W7 hB7 g7 hg7
 have fB7 := hB7.f fB6
 have z7 := hB7.below.size
 have b7_0 := hB7.b b6_0
 have b7_1 := hB7.b b6_1
 have b7_2 := hB7.b b6_2
 have b7_3 := hB7.b b6_3
 have b7_4 := hB7.b nb6
 refine hK10 _ _ ?_
 have k7_5 := kt hg7 5 k5_5
 have k7_6 := kt hg7 6 k5_6
 have k7_8 := kt hg7 8 k5_8
 have k7_9 := kt hg7 9 k5_9
 have k7_11 := kt hg7 11 k5_11
 have k7_12 := kt hg7 12 (hB7.is 2)
 refine wp_block ?_
 refine wp_loop_n (fun m_ a_ W_ => ∃ g_ : Nat → Value, a_ = fr 43 g_ ∧ (∃ c : Int, m_ = (hi + 1 - c).toNat ∧ g_ 5 = .pointer (some ⟨(s1 1), 0, none⟩) ∧ g_ 6 = .pointer (some ⟨(s1 2), 0, none⟩) ∧ g_ 11 = .pointer (some ⟨(s5 4), 0, none⟩) ∧ g_ 12 = .int .i64 c ∧ Below w.heap.size w W_ ∧ W7.heap.size ≤ W_.heap.size ∧ W_.heap[(s1 0)]? = some (.cells #[.int .i64 tab, .slice (some ⟨bp, ox, none⟩) (4) (cp), .int .i64 hh, .slice (some ⟨q1, o1, none⟩) (2) (m1), .slice (some ⟨q0, o0, none⟩) (2) (m0), .int .i64 slot, .bool false] 24 (0, 0)) ∧ W_.heap[(s1 1)]? = some (.cells #[.int .i64 l1, .int .i64 h1, .int .i64 l2, .int .i64 h2, .int .i64 l3, .int .i64 h3, .int .i64 l4, .int .i64 h4, .int .i64 l5, .int .i64 h5, .bool wo] 69 (0, 0)) ∧ W_.heap[(s1 2)]? = some (.cells #[.int .i64 lo, .int .i64 hi] 37 (0, 0)) ∧ W_.heap[(s2 3)]? = some (.cells #[.int .i64 lo, .int .i64 hi] 37 (0, 0)) ∧ W_.heap[(s5 4)]? = some (.cells #[.int .i64 tab, .slice (some ⟨bp, ox, none⟩) (4) (cp), .int .i64 hh, .slice (some ⟨q1, o1, none⟩) (2) (m1), .slice (some ⟨q0, o0, none⟩) (2) (m0), .int .i64 slot, .bool false, .int .i64 off] 104 (0, 0)) ∧ (lo ≤ c) ∧ (c ≤ hi + 1 ∨ c = lo) ∧ (mayFrom F_ (hi + 1 - lo).toNat lo = mayFrom F_ (hi + 1 - c).toNat c))) ⟨_, g7, rfl, lo, rfl, k7_5, k7_6, k7_11, k7_12.trans (by rfl), fB7, Nat.le_refl _, b7_0, b7_1, b7_2, b7_3, b7_4, Int.le_refl _, .inr rfl, rfl⟩ ?_
 rintro _ _ W_2 ⟨g_2, rfl, c, rfl, k_2_5, k_2_6, k_2_11, k_2_12, fB_2, z_2, b_2_0, b_2_1, b_2_2, b_2_3, b_2_4, lp0, lp1, lp2⟩
 refine wp_seq_k fun K11 hK11 => ?_
 refine wp_seq_k fun K12 hK12 => ?_
 refine region_dk 4 [(32, 0), (33, 1), (34, 2), (35, 3)] [[], [], [1], [0, 1, 2]] (rel [is (.int .i64 c),
   is (.pointer (some ⟨(s1 2), 1, none⟩)),
   is (.int .i64 hi),
   is (.bool (decide (c ≤ hi)))])
  ⟨is_k, is_k, is_k, is_k, trivial⟩
  ⟨fun f s W d i j k l a => opv rfl rfl (by simp [go_sem, a.e 12 k_2_12]) rfl,
  fun f s W d i j k l a => opv rfl rfl (by simp [go_sem, a.e 6 k_2_6]) rfl,
  fun f s W d i j k l a => opv rfl rfl (by simp [go_sem, a.e 33 (i 1 rfl), cb b_2_2 d 1]) rfl,
  fun f s W d i j k l a => opv rfl rfl (by simp [go_sem, a.e 32 (i 0 rfl), a.e 34 (i 2 rfl)]) rfl, trivial⟩ ?_
 intro f8 s8 W8 hB8 g8 hg8
 have fB8 := hB8.f fB_2
 have z8 := hB8.below.size
 have b8_0 := hB8.b b_2_0
 have b8_1 := hB8.b b_2_1
 have b8_2 := hB8.b b_2_2
 have b8_3 := hB8.b b_2_3
 have b8_4 := hB8.b b_2_4
 refine hK12 _ _ ?_
 have k8_5 := kt hg8 5 k_2_5
 have k8_6 := kt hg8 6 k_2_6
 have k8_11 := kt hg8 11 k_2_11
 have k8_12 := kt hg8 12 k_2_12
 have k8_35 := kt hg8 35 (hB8.is 3)
 refine wp_cond_split (t := decide (c ≤ hi)) ((fr_eval rfl).trans k8_35) (fun hc13 => ?_) (fun hc13 => ?_)
 ·
  have hc13' := hc13; try simp only [ba] at hc13'
  refine wp_skip ?_
  refine hK11 _ _ ?_
  refine wp_seq_k fun K14 hK14 => ?_
  refine wp_block ?_
  refine wp_seq_k fun K15 hK15 => ?_
  refine region_dk 4 [(38, 0), (39, 1), (40, 2), (41, 3)] [[], [], [], [0, 1, 2]] (rel [is (.agg #[.int .i64 tab, .slice (some ⟨bp, ox, none⟩) (4) (cp), .int .i64 hh, .slice (some ⟨q1, o1, none⟩) (2) (m1), .slice (some ⟨q0, o0, none⟩) (2) (m0), .int .i64 slot, .bool false, .int .i64 off]),
   is (.agg #[.int .i64 l1, .int .i64 h1, .int .i64 l2, .int .i64 h2, .int .i64 l3, .int .i64 h3, .int .i64 l4, .int .i64 h4, .int .i64 l5, .int .i64 h5, .bool wo]),
   is (.int .i64 c),
   is (.bool (F_ c))])
   ⟨is_k, is_k, is_k, is_k, trivial⟩
   ⟨fun f s W d i j k l a => opv rfl rfl (by simp [go_sem, a.e 11 k8_11, cb b8_4 d 0, cb b8_4 d 1, cb b8_4 d 2, cb b8_4 d 3, cb b8_4 d 4, cb b8_4 d 5, cb b8_4 d 6, cb b8_4 d 7]) rfl,
  fun f s W d i j k l a => opv rfl rfl (by simp [go_sem, a.e 5 k8_5, cb b8_1 d 0, cb b8_1 d 1, cb b8_1 d 2, cb b8_1 d 3, cb b8_1 d 4, cb b8_1 d 5, cb b8_1 d 6, cb b8_1 d 7, cb b8_1 d 8, cb b8_1 d 9, cb b8_1 d 10]) rfl,
  fun f s W d i j k l a => opv rfl rfl (by simp [go_sem, a.e 12 k8_12]) rfl,
  fun f s W d i j k l a => by have m := below_trans fB8 d; exact opc (args := #[.agg #[.int .i64 tab, .slice (some ⟨bp, ox, none⟩) (4) (cp), .int .i64 hh, .slice (some ⟨q1, o1, none⟩) (2) (m1), .slice (some ⟨q0, o0, none⟩) (2) (m0), .int .i64 slot, .bool false, .int .i64 off], .agg #[.int .i64 l1, .int .i64 h1, .int .i64 l2, .int .i64 h2, .int .i64 l3, .int .i64 h3, .int .i64 l4, .int .i64 h4, .int .i64 l5, .int .i64 h5, .bool wo], .int .i64 c]) rfl rfl (by simp [go_sem, a.e 38 (i 0 rfl), a.e 39 (i 1 rfl), a.e 40 (i 2 rfl)]) (hF_ ▸ closes_false l1 h1 l2 h2 l3 h3 l4 h4 l5 h5 wo hw c off p0 p1 p2 p3 tab hh slot v0 v1 v2 v3 q0 o0 m0 q1 o1 m1 bp ox cp W (hP.below m (Nat.le_refl _)) hpp (hI0.below m (Nat.le_refl _)) hv0 hv0' hv1 hv1' (hI1.below m (Nat.le_refl _)) hv2 hv2' hv3 hv3' (by omega) (by omega) ho1 ho2 hh1 hh2 hs1 hs2 hwo), trivial⟩ ?_
  intro f9 s9 W9 hB9 g9 hg9
  have fB9 := hB9.f fB8
  have z9 := hB9.below.size
  have b9_0 := hB9.b b8_0
  have b9_1 := hB9.b b8_1
  have b9_2 := hB9.b b8_2
  have b9_3 := hB9.b b8_3
  have b9_4 := hB9.b b8_4
  refine hK15 _ _ ?_
  have k9_5 := kt hg9 5 k8_5
  have k9_6 := kt hg9 6 k8_6
  have k9_11 := kt hg9 11 k8_11
  have k9_12 := kt hg9 12 k8_12
  have k9_41 := kt hg9 41 (hB9.is 3)
  refine wp_cond_split (t := F_ c) ((fr_eval rfl).trans k9_41) (fun hc16 => ?_) (fun hc16 => ?_)
  ·
   have hc16' := hc16; try simp only [ba] at hc16'
   refine wp_seq_k fun K17 hK17 => ?_
   refine region_dk 3 [(42, 0), (8, 1), (9, 2)] [[], [0], [0, 1]] (rel [is (.int .i64 c),
   is (.int .i64 c),
   is (.int .i64 0)])
    ⟨is_k, is_k, is_k, trivial⟩
    ⟨fun f s W d i j k l a => opv rfl rfl (by simp [go_sem, a.e 12 k9_12]) rfl,
  fun f s W d i j k l a => opv rfl rfl (by simp [go_sem, a.e 42 (i 0 rfl)]) rfl,
  fun f s W d i j k l a => opv rfl rfl (by simp [go_sem]) rfl, trivial⟩ ?_
   intro f10 s10 W10 hB10 g10 hg10
   have fB10 := hB10.f fB9
   have z10 := hB10.below.size
   have b10_0 := hB10.b b9_0
   have b10_1 := hB10.b b9_1
   have b10_2 := hB10.b b9_2
   have b10_3 := hB10.b b9_3
   have b10_4 := hB10.b b9_4
   refine hK17 _ _ ?_
   have k10_5 := kt hg10 5 k9_5
   have k10_6 := kt hg10 6 k9_6
   have k10_11 := kt hg10 11 k9_11
   have k10_12 := kt hg10 12 k9_12
   have k10_8 := kt hg10 8 (hB10.is 1)
   have k10_9 := kt hg10 9 (hB10.is 2)
   refine wp_ret ?_
   refine inBlock_ret (then_ret (then_ret (inBlock_ret (then_ret ?_))))
   refine leave_gen (v := .tuple #[.int .i64 c, .int .i64 0]) (.inr rfl) (by simp [results, Try.results34, go_sem, frv 43 k10_8, frv 43 k10_9]) ?_
   exact ⟨by rw [lp2, show (hi + 1 - c).toNat = (hi + 1 - (c + 1)).toNat + 1 by omega]; simp only [mayFrom, hc16, if_true], fB10⟩
  ·
   have hc16' := hc16; try simp only [ba] at hc16'
   refine wp_skip ?_
   refine inBlock_normal ?_
   refine hK14 _ _ ?_
   refine region_dk 3 [(36, 0), (37, 1), (12, 2)] [[], [0], [0, 1]] (rel [is (.int .i64 c),
   is (.int .i64 (c + 1)),
   is (.int .i64 (c + 1))])
    ⟨is_k, is_k, is_k, trivial⟩
    ⟨fun f s W d i j k l a => opv rfl rfl (by simp [go_sem, a.e 12 ((k 2 12 rfl rfl).trans k9_12)]) rfl,
  fun f s W d i j k l a => opv rfl rfl (by simp [go_sem, a.e 36 (i 0 rfl), IntWalk.i64_in (c + 1) (by omega)]) rfl,
  fun f s W d i j k l a => opv rfl rfl (by simp [go_sem, a.e 37 (i 1 rfl)]) rfl, trivial⟩ ?_
   intro f11 s11 W11 hB11 g11 hg11
   have fB11 := hB11.f fB9
   have z11 := hB11.below.size
   have b11_0 := hB11.b b9_0
   have b11_1 := hB11.b b9_1
   have b11_2 := hB11.b b9_2
   have b11_3 := hB11.b b9_3
   have b11_4 := hB11.b b9_4
   refine wpOps_end ?_
   have k11_5 := kt hg11 5 k9_5
   have k11_6 := kt hg11 6 k9_6
   have k11_11 := kt hg11 11 k9_11
   have k11_12 := kt hg11 12 (hB11.is 2)
   refine then_normal ?_
   exact ⟨_, by omega, g11, rfl, c + 1, rfl, k11_5, k11_6, k11_11, k11_12.trans (by rfl), fB11, (by omega), b11_0, b11_1, b11_2, b11_3, b11_4, by omega, .inl (by omega), by rw [lp2, show (hi + 1 - c).toNat = (hi + 1 - (c + 1)).toNat + 1 by omega]; simp only [mayFrom, hc16, if_false, Bool.false_eq_true]⟩
 ·
  have hc13' := hc13; try simp only [ba] at hc13'
  refine wp_exit ?_
  refine then_exit ?_
  refine then_exit ?_
  refine inBlock_at ?_
  refine hK9 _ _ ?_
  refine wp_seq_k fun K18 hK18 => ?_
  refine region_dk 2 [(8, 0), (9, 1)] [[], [0]] (rel [is (.int .i64 0),
   is (.int .i64 9)])
   ⟨is_k, is_k, trivial⟩
   ⟨fun f s W d i j k l a => opv rfl rfl (by simp [go_sem]) rfl,
  fun f s W d i j k l a => opv rfl rfl (by simp [go_sem]) rfl, trivial⟩ ?_
  intro f12 s12 W12 hB12 g12 hg12
  have fB12 := hB12.f fB8
  have z12 := hB12.below.size
  have b12_0 := hB12.b b8_0
  have b12_1 := hB12.b b8_1
  have b12_2 := hB12.b b8_2
  have b12_3 := hB12.b b8_3
  have b12_4 := hB12.b b8_4
  refine hK18 _ _ ?_
  have k12_8 := kt hg12 8 (hB12.is 0)
  have k12_9 := kt hg12 9 (hB12.is 1)
  refine wp_ret ?_
  refine leave_gen (v := .tuple #[.int .i64 0, .int .i64 9]) (.inr rfl) (by simp [results, Try.results34, go_sem, frv 43 k12_8, frv 43 k12_9]) ?_
  rw [lp2, show (hi + 1 - c).toNat = 0 by omega]; exact ⟨rfl, fB12⟩
end Go.Proofs.Ythnediamopehfaa
namespace Go.Proofs.Ythnediamopehfaa
def wishB : Wi := ⟨(300, 301), (200, 201), (200, 202), (-3, 0), (0, 200), false⟩
theorem kv_inner : innerErr (boxOf 304 204) (3000, 4000) 0 = 0 ∧ innerL (boxOf 304 204) (3000, 4000) 0 = [(300000, 301000), (200000, 201000), (300000, 301000), (200000, 201000), (200000, 202000), (-2000, -1000), (98000, 99000), (-2000, -1000), (98000, 99000)] := ⟨by kernel_rfl, by kernel_rfl⟩
theorem kv_close : wishedErr (boxOf 304 204) wishB [(2500, 4500)] = 0 ∧ closeL (boxOf 304 204) wishB (2500, 4500) = [(0, 2500), (1, 2500), (2, 2500), (3, 2500), (4, 2500)] := ⟨by kernel_rfl, by kernel_rfl⟩
theorem kv_cal : calOf (boxOf 304 204) wishB = (3000, 4000) ∧ calErr (boxOf 304 204) wishB = 0 := ⟨by kernel_rfl, by kernel_rfl⟩
theorem kv_blank : blankAll wishB 3000 4000 35 = (⟨35, [304, 204, 304, 204], 208, [101, 51], [101, 51], 4, false⟩, 0, 0) := by kernel_rfl
theorem kv_size : checkErr (boxOf 304 204) = 0 ∧ acrossOf (boxOf 304 204) = 1051 ∧ alongOf (boxOf 304 204) = 410 := ⟨by kernel_rfl, by kernel_rfl, by kernel_rfl⟩
theorem kv_scores : scoresOf (boxOf 304 204) = [35, 339, 543, 847] ∧ topOf (boxOf 304 204) = 101 := ⟨by kernel_rfl, by kernel_rfl⟩
theorem kv_play : checkedErr [boxOf 318 218, boxOf 304 204] [(3000, 4000), (3000, 4000)] = 0 ∧ playL (boxOf 318 218) (boxOf 304 204) (3000, 4000) (3000, 4000) = [(6000, 8000), (6000, 8000), (6000, 8000), (6000, 8000)] := ⟨by kernel_rfl, by kernel_rfl⟩
theorem kv_sort1 : sortI [200000, 300000, 201000] = [200000, 201000, 300000] := by simp [sortI, List.mergeSort, List.MergeSort.Internal.splitInTwo, List.merge]
theorem kv_sort2 : sortI [300000, 200000, 200000] = [200000, 200000, 300000] := by simp [sortI, List.mergeSort, List.MergeSort.Internal.splitInTwo, List.merge]
theorem kv_sort3 : sortI [301000, 201000, 202000] = [201000, 202000, 301000] := by simp [sortI, List.mergeSort, List.MergeSort.Internal.splitInTwo, List.merge]
theorem kv_holds : holdsErr (boxOf 304 204) (3000, 4000) [200, 300, 201] = 0 ∧ fitsOf (boxOf 304 204) 4000 [200, 300, 201] = false ∧ fitsOf (boxOf 304 204) 3000 [200, 300, 201] = true := by
  refine ⟨by kernel_rfl, ?_, ?_⟩
  · unfold fitsOf
    rw [show ([200, 300, 201] : List Int).map (1000 * ·) = [200000, 300000, 201000] from rfl, show roomOf (boxOf 304 204) 4000 = [300000, 200000, 200000] from by kernel_rfl, kv_sort1, kv_sort2]; rfl
  · unfold fitsOf
    rw [show ([200, 300, 201] : List Int).map (1000 * ·) = [200000, 300000, 201000] from rfl, show roomOf (boxOf 304 204) 3000 = [301000, 201000, 202000] from by kernel_rfl, kv_sort1, kv_sort3]; rfl
theorem kv_may : mayOf (boxOf 304 204) wishB 2500 4500 0 = (3000, 0) := by kernel_rfl
end Go.Proofs.Ythnediamopehfaa
