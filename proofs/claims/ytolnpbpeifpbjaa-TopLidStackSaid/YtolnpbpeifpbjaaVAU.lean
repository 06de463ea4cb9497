/- Part of the proof: what the claim leans on. -/
import Derived.Test.YtolnpbpeifpbjaaVAT
import Derived.Test.YtolnpbpeifpbjaaVAJ
import Derived.Test.YtolnpbpeifpbjaaVAM
set_option maxHeartbeats 16000000
set_option maxRecDepth 100000
set_option linter.unusedSimpArgs false
set_option linter.unusedVariables false
namespace Go.Proofs.Ytolnpbpeifpbjaa
open Go.RowKit
theorem armSpan_any (lo hi : Int) (w : World) :
  Calls Try.prog 35 #[.int .i64 lo, .int .i64 hi] w (fun e w' => e = .returned (.agg #[.int .i64 lo, .int .i64 hi]) ∧ Below w.heap.size w w') := by
 refine calls_fr Try.func35 Try.ntmps35 rfl rfl fun g hg => ?_
 have k0 : g 0 = .int .i64 lo := hg 0
 have k1 : g 1 = .int .i64 hi := hg 1
 clear hg
 have fB0 : Below w.heap.size w w := Below.refl _ _
 refine rw_ 1 [(4, 0)] [[]] (rel [bx 0 #[.int .i64 0, .int .i64 0] 62])
  ⟨fun f s W c d h i j a => opb rfl rfl (by simp [go_sem]), trivial⟩ ?_
 intro f1 s1 W1 hB1 g1 hg1 z1
 obtain ⟨r1_0, br1_0⟩ := hB1.is 0
 have lr1_0 := hB1.lr 0 br1_0
 have k1_0 := kt hg1 0 k0
 have k1_1 := kt hg1 1 k1
 refine wp_seq_k fun K2 hK2 => ?_
 refine ry 3 [(5, 0), (6, 1), (7, 2)] [[], [], [0, 1], [0, 1, 2]] (rel [iI lo, iI hi, is (.agg #[.int .i64 lo, .int .i64 hi])])
  ⟨fun f s W c d h i j a => opm (a.v 0 k1_0),
  fun f s W c d h i j a => opm (a.v 1 k1_1),
  fun f s W c d h i j a => opv rfl rfl (by simp [go_sem, a.e 5 (d 0 rfl), a.e 6 (d 1 rfl)]) rfl, trivial⟩ ?_
 intro f2 s2 W2 hB2 g2 hg2 z2
 have fB2 := hB2.f (hB1.f fB0)
 have b2_0 := hB2.b br1_0
 have k2_4 := kt hg2 4 (kt hg1 4 r1_0)
 have k2_7 := kt hg2 7 (hB2.is 2)
 obtain ⟨W3, hW3⟩ : ∃ W', W' = W2.setRow (s1 0) #[.int .i64 lo, .int .i64 hi] := ⟨_, rfl⟩
 refine tsk (o := _) rfl ⟨rfl, rfl⟩ (run_seg hW3 (fr_ev k2_4) (fr_ev k2_7) b2_0 rfl rfl rfl rfl) ?_
 obtain ⟨fB3, nb3, ot3, z3⟩ := sgf hW3 fB2 b2_0 (by omega)
 clear hW3
 refine wpe ?_
 refine hK2 _ _ ?_
 refine wp_ret ?_
 refine leave_gen (v := .agg #[.int .i64 lo, .int .i64 hi]) (.inr rfl) (by simp [results, Try.results35, go_sem, frv 8 k2_4, cl nb3 0, cl nb3 1]) ?_
 exact ⟨rfl, fB3⟩
theorem armStore_any (ap af ay : Option Addr) (np cp nf cf nb cb nP nF : Nat) (bv fb : Nat → Nat → Int) (w : World) (hRp : RowsB w ap np 6 bv) (hRf : RowsB w af nf 3 fb) (hwb : WareB np nf bv fb) (hnP : nP = max 2 (min 5 np)) (hnF : nF = max 1 (min 3 nf)) :
  Calls Try.prog 15 #[.agg #[.slice ap np cp, .slice af nf cf, .slice ay nb cb]] w (StoNP nP nF (paZ bv) (fuW fb) w) := by
 obtain ⟨bp, op, hRp_⟩ := hRp.at'
 obtain ⟨bf, of, hRf_⟩ := hRf.at'
 refine calls_fr Try.func15 Try.ntmps15 rfl rfl fun g hg => ?_
 have k0 : g 0 = .agg #[.slice ap np cp, .slice af nf cf, .slice ay nb cb] := hg 0
 clear hg
 have fB0 : Below w.heap.size w w := Below.refl _ _
 refine rw_ 2 [(1, 0), (2, 1)] [[], []] (rel [bx 0 #[.slice ap np cp, .slice af nf cf, .slice ay nb cb] 60, bx 1 #[.slice none 0 0, .slice none 0 0] 68])
  ⟨fun f s W h j l m n a => opb rfl rfl (by simp [go_sem, a.e 0 k0]),
  fun f s W h j l m n a => opb rfl rfl (by simp [go_sem]), trivial⟩ ?_
 intro f1 s1 W1 hB1 g1 hg1 z1
 obtain ⟨r1_0, br1_0⟩ := hB1.is 0
 have lr1_0 := hB1.lr 0 br1_0
 obtain ⟨r1_1, br1_1⟩ := hB1.is 1
 have lr1_1 := hB1.lr 1 br1_1
 have ne1_0_1 := hB1.nb 0 1
 refine wp_seq_k fun K2 hK2 => ?_
 refine ry 2 [(10, 0), (3, 1)] [[], [], [0, 1]] (rel [is (.agg #[.slice none 0 0, .slice none 0 0]), bx 1 #[.slice none 0 0, .slice none 0 0] 68])
  ⟨fun f s W h j l m n a => opv rfl rfl (by simp [go_sem]) rfl,
  fun f s W h j l m n a => opb rfl rfl (by simp [go_sem]), trivial⟩ ?_
 intro f2 s2 W2 hB2 g2 hg2 z2
 have fB2 := hB2.f (hB1.f fB0)
 have b2_0 := hB2.b br1_0
 have b2_1 := hB2.b br1_1
 obtain ⟨r2_1, br2_1⟩ := hB2.is 1
 have lr2_1 := hB2.lr 1 br2_1
 have k2_10 := kt hg2 10 (hB2.is 0)
 have k2_3 := kt hg2 3 r2_1
 obtain ⟨W3, hW3⟩ : ∃ W', W' = W2.setRow (s2 1) #[.slice none 0 0, .slice none 0 0] := ⟨_, rfl⟩
 refine tsk (o := _) rfl ⟨rfl, rfl⟩ (run_seg hW3 (fr_ev k2_3) (fr_ev k2_10) br2_1 rfl rfl rfl rfl) ?_
 obtain ⟨fB3, nb3, ot3, z3⟩ := sgf hW3 fB2 br2_1 (by omega)
 clear hW3
 have b3_0 := ot3 _ _ (by omega) b2_0
 have b3_1 := ot3 _ _ (by omega) b2_1
 refine wpe ?_
 refine hK2 _ _ ?_
 refine wp_seq_k fun K3 hK3 => ?_
 refine rw_ 1 [(4, 0)] [[]] (rel [iI 0])
  ⟨fun f s W h j l m n a => opz, trivial⟩ ?_
 intro f4 s4 W4 hB4 g4 hg4 z4
 have fB4 := hB4.f fB3
 have b4_0 := hB4.b b3_0
 have b4_1 := hB4.b b3_1
 have b4_2 := hB4.b nb3
 have k4_1 := kt hg4 1 (kt hg2 1 (kt hg1 1 r1_0))
 have k4_2 := kt hg4 2 (kt hg2 2 (kt hg1 2 r1_1))
 have k4_3 := kt hg4 3 k2_3
 have k4_4 := kt hg4 4 (hB4.is 0)
 have on0 : OwnN 103 8 w.heap.size 0 (paL (paZ bv) 0) none 0 W4 := ownN_nil
 refine wp_block ?_
 refine wp_loop_n (fun m_ a_ W_ => ∃ g_ : Nat → Value, a_ = fr 159 g_ ∧ (∃ i : Nat, ∃ ar' : Option Addr, ∃ cr' : Nat, m_ = nP - i ∧ g_ 1 = .pointer (some ⟨(s1 0), 0, none⟩) ∧ g_ 2 = .pointer (some ⟨(s1 1), 0, none⟩) ∧ g_ 3 = .pointer (some ⟨(s2 1), 0, none⟩) ∧ g_ 4 = .int .i64 ((i : Int)) ∧ Below w.heap.size w W_ ∧ W4.heap.size ≤ W_.heap.size ∧ W_.heap[(s1 0)]? = some (.cells #[.slice ap np cp, .slice af nf cf, .slice ay nb cb] 60 (0, 0)) ∧ W_.heap[(s1 1)]? = some (.cells #[.slice none 0 0, .slice none 0 0] 68 (0, 0)) ∧ W_.heap[(s2 1)]? = some (.cells #[.slice ar' i cr', .slice none 0 0] 68 (0, 0)) ∧ OwnN 103 8 w.heap.size i (paL (paZ bv) i) ar' cr' W_ ∧ (i ≤ nP))) ⟨_, g4, rfl, 0, none, 0, rfl, k4_1, k4_2, k4_3, k4_4.trans (by rfl), fB4, Nat.le_refl _, b4_0, b4_1, b4_2, on0, (by omega)⟩ ?_
 rintro _ _ W_1 ⟨g_1, rfl, i, ar', cr', rfl, k_1_1, k_1_2, k_1_3, k_1_4, fB_1, z_1, b_1_0, b_1_1, m_1_0, q2', li0⟩
 have hv_ := hwb.1 i
 have hv0_ := hv_ 0
 have hv1_ := hv_ 1
 have hv2_ := hv_ 2
 have hv3_ := hv_ 3
 have hv4_ := hv_ 4
 have hv5_ := hv_ 5
 refine wp_seq_k fun K5 hK5 => ?_
 refine rw_ 13 [(11, 0), (12, 1), (13, 2), (14, 3), (15, 4), (16, 5), (17, 6), (18, 7), (19, 8), (20, 9), (21, 10), (22, 11), (23, 12)] [[], [0], [1], [2], [2], [2, 4], [2, 5], [2, 3, 6], [2, 7], [8], [8, 9], [2, 8, 10], [2, 11]] (rel [iI ((i : Int)), iB (decide ((i : Int) < 2)), iB (decide ((i : Int) < 2)), gd (decide ((i : Int) < 2)) false (iI ((i : Int))), gd (decide ((i : Int) < 2)) false (is (.pointer (some ⟨(s1 0), 0, none⟩))), gd (decide ((i : Int) < 2)) false (is (.slice ap np cp)), gd (decide ((i : Int) < 2)) false (iI ((np : Int))), gd (decide ((i : Int) < 2)) false (iB (decide ((i : Int) < (np : Int)))), gd (decide ((i : Int) < 2)) false (iB (decide ((i : Int) < (np : Int)))), gd (decide ((i : Int) < 2)) false (gd (decide ((i : Int) < (np : Int))) true (iI ((i : Int)))), gd (decide ((i : Int) < 2)) false (gd (decide ((i : Int) < (np : Int))) true (iB (decide ((i : Int) < 5)))), gd (decide ((i : Int) < 2)) false (iB ((decide ((i : Int) < (np : Int))) && (decide ((i : Int) < 5)))), iB ((decide ((i : Int) < 2)) || ((decide ((i : Int) < (np : Int))) && (decide ((i : Int) < 5))))])
  ⟨fun f s W h j l m n a => opm (a.v 4 k_1_4),
  fun f s W h j l m n a => opv rfl rfl (by simp [go_sem, a.e 11 (j 0 rfl)]) rfl,
  fun f s W h j l m n a => opm (a.v 12 (j 1 rfl)),
  fun f s W h j l m n a => gdo rfl rfl (a.says (d := 13) rfl rfl (j 2 rfl)) fun hgd0 => gv (by simp [go_sem, a.e 4 k_1_4]) rfl,
  fun f s W h j l m n a => gdo rfl rfl (a.says (d := 13) rfl rfl (j 2 rfl)) fun hgd0 => gv (by simp [go_sem, a.e 1 k_1_1]) rfl,
  fun f s W h j l m n a => gdo rfl rfl (a.says (d := 13) rfl rfl (j 2 rfl)) fun hgd0 => gv (by simp [go_sem, a.e 15 ((j 4 rfl).1 hgd0), cl (bwb b_1_0 h) 0]) rfl,
  fun f s W h j l m n a => gdo rfl rfl (a.says (d := 13) rfl rfl (j 2 rfl)) fun hgd0 => gv (by simp [go_sem, a.e 16 ((j 5 rfl).1 hgd0)]) rfl,
  fun f s W h j l m n a => gdo rfl rfl (a.says (d := 13) rfl rfl (j 2 rfl)) fun hgd0 => gv (by simp [go_sem, a.e 14 ((j 3 rfl).1 hgd0), a.e 17 ((j 6 rfl).1 hgd0)]) rfl,
  fun f s W h j l m n a => gdo rfl rfl (a.says (d := 13) rfl rfl (j 2 rfl)) fun hgd0 => gv (by simp [go_sem, a.e 18 ((j 7 rfl).1 hgd0)]) rfl,
  fun f s W h j l m n a => gdo2 rfl rfl a (d := 19) rfl rfl (j 8 rfl) fun hgd0 hgd1 => gv (by simp [go_sem, a.e 4 k_1_4]) rfl,
  fun f s W h j l m n a => gdo2 rfl rfl a (d := 19) rfl rfl (j 8 rfl) fun hgd0 hgd1 => gv (by simp [go_sem, a.e 20 (((j 9 rfl).1 hgd0).1 hgd1)]) rfl,
  fun f s W h j l m n a => gdo rfl rfl (a.says (d := 13) rfl rfl (j 2 rfl)) fun hgd0 => gk (c := decide ((i : Int) < (np : Int))) (fun hpk => by first | (simp [go_sem, hpk, a.e 19 ((j 8 rfl).1 hgd0)]; done) | (have hpk' := hpk; simp at hpk'; simp [go_sem, hpk', hpk, a.e 19 ((j 8 rfl).1 hgd0)]; done) | (have hpk' := of_decide_eq_false hpk; simp only [Int.ofNat_lt] at hpk'; simp [go_sem, hpk', hpk, a.e 19 ((j 8 rfl).1 hgd0)])) (fun hpk => by first | (simp [go_sem, hpk, a.e 19 ((j 8 rfl).1 hgd0), a.e 21 (((j 10 rfl).1 hgd0).1 hpk)]; done) | (have hpk' := hpk; simp at hpk'; simp [go_sem, hpk', hpk, a.e 19 ((j 8 rfl).1 hgd0), a.e 21 (((j 10 rfl).1 hgd0).1 hpk)]; done) | (have hpk' := of_decide_eq_false hpk; simp only [Int.ofNat_lt] at hpk'; simp [go_sem, hpk', hpk, a.e 19 ((j 8 rfl).1 hgd0), a.e 21 (((j 10 rfl).1 hgd0).1 hpk)])),
  fun f s W h j l m n a => opk (c := decide ((i : Int) < 2)) rfl rfl (fun hpk => by first | (simp [go_sem, hpk, a.e 13 (j 2 rfl), a.e 22 ((j 11 rfl).1 hpk)]; done) | (have hpk' := hpk; simp at hpk'; simp [go_sem, hpk', hpk, a.e 13 (j 2 rfl), a.e 22 ((j 11 rfl).1 hpk)]; done) | (have hpk' := of_decide_eq_false hpk; simp only [Int.ofNat_lt] at hpk'; simp [go_sem, hpk', hpk, a.e 13 (j 2 rfl), a.e 22 ((j 11 rfl).1 hpk)])) (fun hpk => by first | (simp [go_sem, hpk, a.e 13 (j 2 rfl)]; done) | (have hpk' := hpk; simp at hpk'; simp [go_sem, hpk', hpk, a.e 13 (j 2 rfl)]; done) | (have hpk' := of_decide_eq_false hpk; simp only [Int.ofNat_lt] at hpk'; simp [go_sem, hpk', hpk, a.e 13 (j 2 rfl)])), trivial⟩ ?_
 intro f5 s5 W5 hB5 g5 hg5 z5
 have fB5 := hB5.f fB_1
 have b5_0 := hB5.b b_1_0
 have b5_1 := hB5.b b_1_1
 have b5_2 := hB5.b m_1_0
 have q3' := (q2'.below hB5.below)
 have k5_1 := kt hg5 1 k_1_1
 have k5_2 := kt hg5 2 k_1_2
 have k5_3 := kt hg5 3 k_1_3
 have k5_4 := kt hg5 4 k_1_4
 have k5_23 := kt hg5 23 (hB5.is 12)
 refine wp_cond_split (t := (decide ((i : Int) < 2)) || ((decide ((i : Int) < (np : Int))) && (decide ((i : Int) < 5)))) ((fr_eval rfl).trans k5_23) (fun hc7 => ?_) (fun hc7 => ?_)
 ·
  have hc7' := hc7; try simp only [ba] at hc7'
  have hin : i < nP := by omega
  have hi5 : i < 5 := by omega
  refine wp_skip ?_
  refine hK5 _ _ ?_
  refine wp_seq_k fun K8 hK8 => ?_
  refine wp_block ?_
  refine wp_seq_k fun K9 hK9 => ?_
  refine ry 4 [(26, 0), (27, 1), (28, 2), (5, 3)] [[], [0], [1], [], [0, 1, 2, 3]] (rel [iI ((i : Int)), is (.int .u8 ((i : Int))), is (.agg #[.int .u8 ((i : Int)), .int .u8 120, .int .u8 20, .int .u8 7, .int .u8 30, .int .u8 20]), bx 3 #[.int .u8 0, .int .u8 0, .int .u8 0, .int .u8 0, .int .u8 0, .int .u8 0] 100])
   ⟨fun f s W h j l m n a => opm (a.v 4 k5_4),
  fun f s W h j l m n a => by have cv_ := IntWalk.u8_in ((i : Int)) (by omega); exact opv rfl rfl (by simp [go_sem, a.e 26 (j 0 rfl), cv_]) rfl,
  fun f s W h j l m n a => opv rfl rfl (by simp [go_sem, a.e 27 (j 1 rfl)]) rfl,
  fun f s W h j l m n a => opb rfl rfl (by simp [go_sem]), trivial⟩ ?_
  intro f6 s6 W6 hB6 g6 hg6 z6
  have fB6 := hB6.f fB5
  have b6_0 := hB6.b b5_0
  have b6_1 := hB6.b b5_1
  have b6_2 := hB6.b b5_2
  have q4' := (q3'.below hB6.below)
  obtain ⟨r6_3, br6_3⟩ := hB6.is 3
  have lr6_3 := hB6.lr 3 br6_3
  have k6_1 := kt hg6 1 k5_1
  have k6_4 := kt hg6 4 k5_4
  have k6_28 := kt hg6 28 (hB6.is 2)
  have k6_5 := kt hg6 5 r6_3
  obtain ⟨W7, hW7⟩ : ∃ W', W' = W6.setRow (s6 3) #[.int .u8 ((i : Int)), .int .u8 120, .int .u8 20, .int .u8 7, .int .u8 30, .int .u8 20] := ⟨_, rfl⟩
  refine tsk (o := _) rfl ⟨rfl, rfl⟩ (run_seg hW7 (fr_ev k6_5) (fr_ev k6_28) br6_3 rfl rfl rfl rfl) ?_
  obtain ⟨fB7, nb7, ot7, z7⟩ := sgf hW7 fB6 br6_3 (by omega)
  clear hW7
  have b7_0 := ot7 _ _ (by omega) b6_0
  have b7_1 := ot7 _ _ (by omega) b6_1
  have b7_2 := ot7 _ _ (by omega) b6_2
  have q5' := q4'.other ot7 (ownN_ne q4' br6_3) z7
  refine wpe ?_
  refine hK9 _ _ ?_
  have limA := OwnN.lim q5'
  refine wp_seq_k fun K10 hK10 => ?_
  suffices J6' : ∀ (g_ : Nat → Value) (W_ : World), (g_ 1 = .pointer (some ⟨(s1 0), 0, none⟩) ∧ g_ 2 = .pointer (some ⟨(s1 1), 0, none⟩) ∧ g_ 3 = .pointer (some ⟨(s2 1), 0, none⟩) ∧ g_ 4 = .int .i64 ((i : Int)) ∧ g_ 5 = .pointer (some ⟨(s6 3), 0, none⟩) ∧ Below w.heap.size w W_ ∧ W7.heap.size ≤ W_.heap.size ∧ W_.heap[(s1 0)]? = some (.cells #[.slice ap np cp, .slice af nf cf, .slice ay nb cb] 60 (0, 0)) ∧ W_.heap[(s1 1)]? = some (.cells #[.slice none 0 0, .slice none 0 0] 68 (0, 0)) ∧ W_.heap[(s2 1)]? = some (.cells #[.slice ar' i cr', .slice none 0 0] 68 (0, 0)) ∧ W_.heap[(s6 3)]? = some (.cells #[.int .u8 ((bv i 0)), .int .u8 ((bv i 1)), .int .u8 ((bv i 2)), .int .u8 ((bv i 3)), .int .u8 ((bv i 4)), .int .u8 ((bv i 5))] 100 (0, 0)) ∧ OwnN 103 8 w.heap.size i (paL (paZ bv) i) ar' cr' W_) → K10 (fr 159 g_) W_ by
   refine rw_ 5 [(29, 0), (30, 1), (31, 2), (32, 3), (33, 4)] [[], [], [1], [2], [0, 3]] (rel [iI ((i : Int)), is (.pointer (some ⟨(s1 0), 0, none⟩)), is (.slice ap np cp), iI ((np : Int)), iB (decide ((i : Int) < (np : Int)))])
    ⟨fun f s W h j l m n a => opm (a.v 4 k6_4),
  fun f s W h j l m n a => opv rfl rfl (by simp [go_sem, a.e 1 k6_1]) rfl,
  fun f s W h j l m n a => opv rfl rfl (by simp [go_sem, a.e 30 (j 1 rfl), cl (bwb b7_0 h) 0]) rfl,
  fun f s W h j l m n a => opv rfl rfl (by simp [go_sem, a.e 31 (j 2 rfl)]) rfl,
  fun f s W h j l m n a => opv rfl rfl (by simp [go_sem, a.e 29 (j 0 rfl), a.e 32 (j 3 rfl)]) rfl, trivial⟩ ?_
   intro f8 s8 W8 hB8 g8 hg8 z8
   have fB8 := hB8.f fB7
   have b8_0 := hB8.b b7_0
   have b8_1 := hB8.b b7_1
   have b8_2 := hB8.b b7_2
   have b8_3 := hB8.b nb7
   have q7' := (q5'.below hB8.below)
   have k8_1 := kt hg8 1 k6_1
   have k8_2 := kt hg8 2 (kt hg6 2 k5_2)
   have k8_3 := kt hg8 3 (kt hg6 3 k5_3)
   have k8_4 := kt hg8 4 k6_4
   have k8_5 := kt hg8 5 k6_5
   have k8_33 := kt hg8 33 (hB8.is 4)
   refine wp_cond_split (t := decide ((i : Int) < (np : Int))) ((fr_eval rfl).trans k8_33) (fun hc12 => ?_) (fun hc12 => ?_)
   ·
    have hc12' := hc12; try simp only [ba] at hc12'
    refine ry 5 [(34, 0), (35, 1), (36, 2), (37, 3), (38, 4)] [[], [0], [], [1, 2], [3], [0, 1, 2, 3, 4]] (rel [is (.pointer (some ⟨(s1 0), 0, none⟩)), is (.slice ap np cp), iI ((i : Int)), is (.pointer (some ⟨bp, op + i * 6, none⟩)), is (.agg #[.int .u8 ((bv i 0)), .int .u8 ((bv i 1)), .int .u8 ((bv i 2)), .int .u8 ((bv i 3)), .int .u8 ((bv i 4)), .int .u8 ((bv i 5))])])
     ⟨fun f s W h j l m n a => opv rfl rfl (by simp [go_sem, a.e 1 k8_1]) rfl,
  fun f s W h j l m n a => opv rfl rfl (by simp [go_sem, a.e 34 (j 0 rfl), cl (bwb b8_0 h) 0]) rfl,
  fun f s W h j l m n a => opm (a.v 4 k8_4),
  fun f s W h j l m n a => by have hab := (hRp_ (by omega)).1; have li_ := Nat.not_le.2 (show i < np by omega); have li2_ : (i : Int) < (np : Int) := (by omega); exact opv rfl rfl (by simp [go_sem, a.e 35 (j 1 rfl), a.e 36 (j 2 rfl), hab, li_, li2_]) rfl,
  fun f s W h j l m n a => by have p := bwt fB8 h; have cu0_ : W.cell? ⟨bp, op + i * 6, none⟩ = some (.int .u8 (bv i 0)) := (hRp_ (by omega)).2 W p i 0 (by omega) (by decide); have cu1_ : W.cell? ⟨bp, op + i * 6 + 1, none⟩ = some (.int .u8 (bv i 1)) := (hRp_ (by omega)).2 W p i 1 (by omega) (by decide); have cu2_ : W.cell? ⟨bp, op + i * 6 + 2, none⟩ = some (.int .u8 (bv i 2)) := (hRp_ (by omega)).2 W p i 2 (by omega) (by decide); have cu3_ : W.cell? ⟨bp, op + i * 6 + 3, none⟩ = some (.int .u8 (bv i 3)) := (hRp_ (by omega)).2 W p i 3 (by omega) (by decide); have cu4_ : W.cell? ⟨bp, op + i * 6 + 4, none⟩ = some (.int .u8 (bv i 4)) := (hRp_ (by omega)).2 W p i 4 (by omega) (by decide); have cu5_ : W.cell? ⟨bp, op + i * 6 + 5, none⟩ = some (.int .u8 (bv i 5)) := (hRp_ (by omega)).2 W p i 5 (by omega) (by decide); exact opv rfl rfl (by simp [go_sem, a.e 37 (j 3 rfl), cu0_, cu1_, cu2_, cu3_, cu4_, cu5_]) rfl, trivial⟩ ?_
    intro f9 s9 W9 hB9 g9 hg9 z9
    have fB9 := hB9.f fB8
    have b9_0 := hB9.b b8_0
    have b9_1 := hB9.b b8_1
    have b9_2 := hB9.b b8_2
    have b9_3 := hB9.b b8_3
    have q8' := (q7'.below hB9.below)
    have k9_1 := kt hg9 1 k8_1
    have k9_2 := kt hg9 2 k8_2
    have k9_3 := kt hg9 3 k8_3
    have k9_4 := kt hg9 4 k8_4
    have k9_5 := kt hg9 5 k8_5
    have k9_38 := kt hg9 38 (hB9.is 4)
    obtain ⟨W10, hW10⟩ : ∃ W', W' = W9.setRow (s6 3) #[.int .u8 ((bv i 0)), .int .u8 ((bv i 1)), .int .u8 ((bv i 2)), .int .u8 ((bv i 3)), .int .u8 ((bv i 4)), .int .u8 ((bv i 5))] := ⟨_, rfl⟩
    refine tsk (o := _) rfl ⟨rfl, rfl⟩ (run_seg hW10 (fr_ev k9_5) (fr_ev k9_38) b9_3 rfl rfl rfl rfl) ?_
    obtain ⟨fB10, nb10, ot10, z10⟩ := sgf hW10 fB9 b9_3 (by omega)
    clear hW10
    have b10_0 := ot10 _ _ (by omega) b9_0
    have b10_1 := ot10 _ _ (by omega) b9_1
    have b10_2 := ot10 _ _ (by omega) b9_2
    have q9' := q8'.other ot10 (ownN_ne q8' b9_3) z10
    refine wpe ?_
    exact J6' _ _ ⟨k9_1, k9_2, k9_3, k9_4, k9_5, fB10, (by omega), b10_0, b10_1, b10_2, nb10, q9'⟩
   ·
    have hc12' := hc12; try simp only [ba] at hc12'
    refine wp_skip ?_
    exact J6' _ _ ⟨k8_1, k8_2, k8_3, k8_4, k8_5, fB8, (by omega), b8_0, b8_1, b8_2, (by obtain ⟨e0, e1, e2, e3, e4, e5⟩ := hwb.2.2.1 i (by omega) (by omega); rw [e0, e1, e2, e3, e4, e5]; exact b8_3), q7'⟩
  rintro g_10 W_10 ⟨k_10_1, k_10_2, k_10_3, k_10_4, k_10_5, fB_10, z_10, b_10_0, b_10_1, b_10_2, m_10_0, q11'⟩
  refine hK10 _ _ ?_
  refine wp_seq_k fun K13 hK13 => ?_
  refine ry 44 [(39, 0), (40, 1), (41, 2), (42, 3), (43, 4), (44, 5), (45, 6), (46, 7), (47, 8), (48, 9), (49, 10), (50, 11), (51, 12), (52, 13), (53, 14), (54, 15), (55, 16), (56, 17), (57, 18), (58, 19), (59, 20), (60, 21), (61, 22), (62, 23), (63, 24), (64, 25), (65, 26), (66, 27), (67, 28), (68, 29), (69, 30), (70, 31), (71, 32), (72, 33), (73, 34), (74, 35), (75, 36), (76, 37), (77, 38), (78, 39), (79, 40), (80, 41), (81, 42), (6, 43)] [[], [0], [], [2], [3], [4], [], [6], [7], [8], [], [10], [11], [12], [], [14], [15], [16], [13, 17], [9, 18], [], [20], [21], [22], [], [24], [25], [26], [], [28], [29], [30], [27, 31], [23, 32], [], [34], [35], [36], [], [38], [39], [40], [1, 5, 19, 33, 37, 41], [], [0, 1, 2, 3, 4, 5, 6, 7, 8, 9, 10, 11, 12, 13, 14, 15, 16, 17, 18, 19, 20, 21, 22, 23, 24, 25, 26, 27, 28, 29, 30, 31, 32, 33, 34, 35, 36, 37, 38, 39, 40, 41, 42, 43]] (rel [iI ((i : Int)), iI (1 + (i : Int)), is (.pointer (some ⟨(s6 3), 1, none⟩)), is (.int .u8 ((bv i 1))), iI ((bv i 1)), iI (50 + (bv i 1)), is (.pointer (some ⟨(s6 3), 2, none⟩)), is (.int .u8 ((bv i 2))), iI ((bv i 2)), iI (50 + (bv i 2)), is (.pointer (some ⟨(s6 3), 2, none⟩)), is (.int .u8 ((bv i 2))), iI ((bv i 2)), iI (50 + (bv i 2)), is (.pointer (some ⟨(s6 3), 0, none⟩)), is (.int .u8 ((bv i 0))), iI ((bv i 0)), iI (((bv i 0) / 8)), iI ((50 + (bv i 2)) + ((bv i 0) / 8)), is (.agg #[.int .i64 (50 + (bv i 2)), .int .i64 ((50 + (bv i 2)) + ((bv i 0) / 8))]), is (.pointer (some ⟨(s6 3), 3, none⟩)), is (.int .u8 ((bv i 3))), iI ((bv i 3)), iI (((bv i 3) % 100)), is (.pointer (some ⟨(s6 3), 3, none⟩)), is (.int .u8 ((bv i 3))), iI ((bv i 3)), iI (((bv i 3) % 100)), is (.pointer (some ⟨(s6 3), 3, none⟩)), is (.int .u8 ((bv i 3))), iI ((bv i 3)), iI (((bv i 3) / 16)), iI (((bv i 3) % 100) + ((bv i 3) / 16)), is (.agg #[.int .i64 (((bv i 3) % 100)), .int .i64 (((bv i 3) % 100) + ((bv i 3) / 16))]), is (.pointer (some ⟨(s6 3), 4, none⟩)), is (.int .u8 ((bv i 4))), iI ((bv i 4)), iI (1000 * (bv i 4)), is (.pointer (some ⟨(s6 3), 5, none⟩)), is (.int .u8 ((bv i 5))), iI ((bv i 5)), iI (10 * (bv i 5)), is (.agg #[.int .i64 (1 + (i : Int)), .int .i64 (50 + (bv i 1)), .int .i64 (50 + (bv i 2)), .int .i64 ((50 + (bv i 2)) + ((bv i 0) / 8)), .int .i64 (((bv i 3) % 100)), .int .i64 (((bv i 3) % 100) + ((bv i 3) / 16)), .int .i64 (1000 * (bv i 4)), .int .i64 (10 * (bv i 5))]), bx 43 #[.int .i64 0, .int .i64 0, .int .i64 0, .int .i64 0, .int .i64 0, .int .i64 0, .int .i64 0, .int .i64 0] 103])
   ⟨fun f s W h j l m n a => opm (a.v 4 k_10_4),
  fun f s W h j l m n a => opv rfl rfl (by simp [go_sem, a.e 39 (j 0 rfl), IntWalk.i64_in (1 + (i : Int)) (by omega)]) rfl,
  fun f s W h j l m n a => opv rfl rfl (by simp [go_sem, a.e 5 k_10_5]) rfl,
  fun f s W h j l m n a => opv rfl rfl (by simp [go_sem, a.e 41 (j 2 rfl), cl (bwb m_10_0 h) 1]) rfl,
  fun f s W h j l m n a => by have cv_ := IntWalk.i64_in ((bv i 1)) (by omega); exact opv rfl rfl (by simp [go_sem, a.e 42 (j 3 rfl), cv_]) rfl,
  fun f s W h j l m n a => opv rfl rfl (by simp [go_sem, a.e 43 (j 4 rfl), IntWalk.i64_in (50 + (bv i 1)) (by omega)]) rfl,
  fun f s W h j l m n a => opv rfl rfl (by simp [go_sem, a.e 5 k_10_5]) rfl,
  fun f s W h j l m n a => opv rfl rfl (by simp [go_sem, a.e 45 (j 6 rfl), cl (bwb m_10_0 h) 2]) rfl,
  fun f s W h j l m n a => by have cv_ := IntWalk.i64_in ((bv i 2)) (by omega); exact opv rfl rfl (by simp [go_sem, a.e 46 (j 7 rfl), cv_]) rfl,
  fun f s W h j l m n a => opv rfl rfl (by simp [go_sem, a.e 47 (j 8 rfl), IntWalk.i64_in (50 + (bv i 2)) (by omega)]) rfl,
  fun f s W h j l m n a => opv rfl rfl (by simp [go_sem, a.e 5 k_10_5]) rfl,
  fun f s W h j l m n a => opv rfl rfl (by simp [go_sem, a.e 49 (j 10 rfl), cl (bwb m_10_0 h) 2]) rfl,
  fun f s W h j l m n a => by have cv_ := IntWalk.i64_in ((bv i 2)) (by omega); exact opv rfl rfl (by simp [go_sem, a.e 50 (j 11 rfl), cv_]) rfl,
  fun f s W h j l m n a => opv rfl rfl (by simp [go_sem, a.e 51 (j 12 rfl), IntWalk.i64_in (50 + (bv i 2)) (by omega)]) rfl,
  fun f s W h j l m n a => opv rfl rfl (by simp [go_sem, a.e 5 k_10_5]) rfl,
  fun f s W h j l m n a => opv rfl rfl (by simp [go_sem, a.e 53 (j 14 rfl), cl (bwb m_10_0 h) 0]) rfl,
  fun f s W h j l m n a => by have cv_ := IntWalk.i64_in ((bv i 0)) (by omega); exact opv rfl rfl (by simp [go_sem, a.e 54 (j 15 rfl), cv_]) rfl,
  fun f s W h j l m n a => by have qu_ : ((bv i 0)).tdiv 8 = ((bv i 0) / 8) := Int.tdiv_eq_ediv_of_nonneg (by omega); have qw_ := IntWalk.i64_in ((bv i 0) / 8) (by omega); exact opv rfl rfl (by simp [go_sem, a.e 55 (j 16 rfl), qu_, qw_]) rfl,
  fun f s W h j l m n a => opv rfl rfl (by simp [go_sem, a.e 52 (j 13 rfl), a.e 56 (j 17 rfl), IntWalk.i64_in ((50 + (bv i 2)) + ((bv i 0) / 8)) (by omega)]) rfl,
  fun f s W h j l m n a => opc rfl rfl (by simp [go_sem, a.e 48 (j 9 rfl), a.e 57 (j 18 rfl)]) (armSpan_any (50 + (bv i 2)) ((50 + (bv i 2)) + ((bv i 0) / 8)) W),
  fun f s W h j l m n a => opv rfl rfl (by simp [go_sem, a.e 5 k_10_5]) rfl,
  fun f s W h j l m n a => opv rfl rfl (by simp [go_sem, a.e 59 (j 20 rfl), cl (bwb m_10_0 h) 3]) rfl,
  fun f s W h j l m n a => by have cv_ := IntWalk.i64_in ((bv i 3)) (by omega); exact opv rfl rfl (by simp [go_sem, a.e 60 (j 21 rfl), cv_]) rfl,
  fun f s W h j l m n a => by have qu_ : ((bv i 3)).tmod 100 = ((bv i 3) % 100) := Int.tmod_eq_emod_of_nonneg (by omega); have qw_ := IntWalk.i64_in ((bv i 3) % 100) (by omega); exact opv rfl rfl (by simp [go_sem, a.e 61 (j 22 rfl), qu_, qw_]) rfl,
  fun f s W h j l m n a => opv rfl rfl (by simp [go_sem, a.e 5 k_10_5]) rfl,
  fun f s W h j l m n a => opv rfl rfl (by simp [go_sem, a.e 63 (j 24 rfl), cl (bwb m_10_0 h) 3]) rfl,
  fun f s W h j l m n a => by have cv_ := IntWalk.i64_in ((bv i 3)) (by omega); exact opv rfl rfl (by simp [go_sem, a.e 64 (j 25 rfl), cv_]) rfl,
  fun f s W h j l m n a => by have qu_ : ((bv i 3)).tmod 100 = ((bv i 3) % 100) := Int.tmod_eq_emod_of_nonneg (by omega); have qw_ := IntWalk.i64_in ((bv i 3) % 100) (by omega); exact opv rfl rfl (by simp [go_sem, a.e 65 (j 26 rfl), qu_, qw_]) rfl,
  fun f s W h j l m n a => opv rfl rfl (by simp [go_sem, a.e 5 k_10_5]) rfl,
  fun f s W h j l m n a => opv rfl rfl (by simp [go_sem, a.e 67 (j 28 rfl), cl (bwb m_10_0 h) 3]) rfl,
  fun f s W h j l m n a => by have cv_ := IntWalk.i64_in ((bv i 3)) (by omega); exact opv rfl rfl (by simp [go_sem, a.e 68 (j 29 rfl), cv_]) rfl,
  fun f s W h j l m n a => by have qu_ : ((bv i 3)).tdiv 16 = ((bv i 3) / 16) := Int.tdiv_eq_ediv_of_nonneg (by omega); have qw_ := IntWalk.i64_in ((bv i 3) / 16) (by omega); exact opv rfl rfl (by simp [go_sem, a.e 69 (j 30 rfl), qu_, qw_]) rfl,
  fun f s W h j l m n a => opv rfl rfl (by simp [go_sem, a.e 66 (j 27 rfl), a.e 70 (j 31 rfl), IntWalk.i64_in (((bv i 3) % 100) + ((bv i 3) / 16)) (by omega)]) rfl,
  fun f s W h j l m n a => opc rfl rfl (by simp [go_sem, a.e 62 (j 23 rfl), a.e 71 (j 32 rfl)]) (armSpan_any (((bv i 3) % 100)) (((bv i 3) % 100) + ((bv i 3) / 16)) W),
  fun f s W h j l m n a => opv rfl rfl (by simp [go_sem, a.e 5 k_10_5]) rfl,
  fun f s W h j l m n a => opv rfl rfl (by simp [go_sem, a.e 73 (j 34 rfl), cl (bwb m_10_0 h) 4]) rfl,
  fun f s W h j l m n a => by have cv_ := IntWalk.i64_in ((bv i 4)) (by omega); exact opv rfl rfl (by simp [go_sem, a.e 74 (j 35 rfl), cv_]) rfl,
  fun f s W h j l m n a => opv rfl rfl (by simp [go_sem, a.e 75 (j 36 rfl), IntWalk.i64_in (1000 * (bv i 4)) (by omega)]) rfl,
  fun f s W h j l m n a => opv rfl rfl (by simp [go_sem, a.e 5 k_10_5]) rfl,
  fun f s W h j l m n a => opv rfl rfl (by simp [go_sem, a.e 77 (j 38 rfl), cl (bwb m_10_0 h) 5]) rfl,
  fun f s W h j l m n a => by have cv_ := IntWalk.i64_in ((bv i 5)) (by omega); exact opv rfl rfl (by simp [go_sem, a.e 78 (j 39 rfl), cv_]) rfl,
  fun f s W h j l m n a => opv rfl rfl (by simp [go_sem, a.e 79 (j 40 rfl), IntWalk.i64_in (10 * (bv i 5)) (by omega)]) rfl,
  fun f s W h j l m n a => opv rfl rfl (by simp [go_sem, a.e 40 (j 1 rfl), a.e 44 (j 5 rfl), a.e 58 (j 19 rfl), a.e 72 (j 33 rfl), a.e 76 (j 37 rfl), a.e 80 (j 41 rfl)]) rfl,
  fun f s W h j l m n a => opb rfl rfl (by simp [go_sem]), trivial⟩ ?_
  intro f11 s11 W11 hB11 g11 hg11 z11
  have fB11 := hB11.f fB_10
  have b11_0 := hB11.b b_10_0
  have b11_1 := hB11.b b_10_1
  have b11_2 := hB11.b b_10_2
  have b11_3 := hB11.b m_10_0
  have q12' := (q11'.below hB11.below)
  obtain ⟨r11_43, br11_43⟩ := hB11.is 43
  have lr11_43 := hB11.lr 43 br11_43
  have k11_4 := kt hg11 4 k_10_4
  have k11_81 := kt hg11 81 (hB11.is 42)
  have k11_6 := kt hg11 6 r11_43
  obtain ⟨W12, hW12⟩ : ∃ W', W' = W11.setRow (s11 43) #[.int .i64 (1 + (i : Int)), .int .i64 (50 + (bv i 1)), .int .i64 (50 + (bv i 2)), .int .i64 ((50 + (bv i 2)) + ((bv i 0) / 8)), .int .i64 (((bv i 3) % 100)), .int .i64 (((bv i 3) % 100) + ((bv i 3) / 16)), .int .i64 (1000 * (bv i 4)), .int .i64 (10 * (bv i 5))] := ⟨_, rfl⟩
  refine tsk (o := _) rfl ⟨rfl, rfl⟩ (run_seg hW12 (fr_ev k11_6) (fr_ev k11_81) br11_43 rfl rfl rfl rfl) ?_
  obtain ⟨fB12, nb12, ot12, z12⟩ := sgf hW12 fB11 br11_43 (by omega)
  clear hW12
  have b12_0 := ot12 _ _ (by omega) b11_0
  have b12_1 := ot12 _ _ (by omega) b11_1
  have b12_2 := ot12 _ _ (by omega) b11_2
  have b12_3 := ot12 _ _ (by omega) b11_3
  have q13' := q12'.other ot12 ((fun g e => by have := limA g e; omega)) z12
  refine wpe ?_
  refine hK13 _ _ ?_
  refine wp_seq_k fun K14 hK14 => ?_
  suffices J14' : ∀ (g_ : Nat → Value) (W_ : World), (g_ 1 = .pointer (some ⟨(s1 0), 0, none⟩) ∧ g_ 2 = .pointer (some ⟨(s1 1), 0, none⟩) ∧ g_ 3 = .pointer (some ⟨(s2 1), 0, none⟩) ∧ g_ 4 = .int .i64 ((i : Int)) ∧ g_ 5 = .pointer (some ⟨(s6 3), 0, none⟩) ∧ g_ 6 = .pointer (some ⟨(s11 43), 0, none⟩) ∧ Below w.heap.size w W_ ∧ W12.heap.size ≤ W_.heap.size ∧ W_.heap[(s1 0)]? = some (.cells #[.slice ap np cp, .slice af nf cf, .slice ay nb cb] 60 (0, 0)) ∧ W_.heap[(s1 1)]? = some (.cells #[.slice none 0 0, .slice none 0 0] 68 (0, 0)) ∧ W_.heap[(s2 1)]? = some (.cells #[.slice ar' i cr', .slice none 0 0] 68 (0, 0)) ∧ W_.heap[(s6 3)]? = some (.cells #[.int .u8 ((bv i 0)), .int .u8 ((bv i 1)), .int .u8 ((bv i 2)), .int .u8 ((bv i 3)), .int .u8 ((bv i 4)), .int .u8 ((bv i 5))] 100 (0, 0)) ∧ W_.heap[(s11 43)]? = some (.cells #[.int .i64 ((paZ bv i).kind), .int .i64 ((paZ bv i).weight), .int .i64 ((paZ bv i).t1), .int .i64 ((paZ bv i).t2), .int .i64 ((paZ bv i).m1), .int .i64 ((paZ bv i).m2), .int .i64 ((paZ bv i).price), .int .i64 ((paZ bv i).strong)] 103 (0, 0)) ∧ OwnN 103 8 w.heap.size i (paL (paZ bv) i) ar' cr' W_) → K14 (fr 159 g_) W_ by
   refine rw_ 2 [(82, 0), (83, 1)] [[], [0]] (rel [iI ((i : Int)), iB (decide (1 < (i : Int)))])
    ⟨fun f s W h j l m n a => opm (a.v 4 k11_4),
  fun f s W h j l m n a => opv rfl rfl (by simp [go_sem, a.e 82 (j 0 rfl)]) rfl, trivial⟩ ?_
   intro f13 s13 W13 hB13 g13 hg13 z13
   have fB13 := hB13.f fB12
   have b13_0 := hB13.b b12_0
   have b13_1 := hB13.b b12_1
   have b13_2 := hB13.b b12_2
   have b13_3 := hB13.b b12_3
   have b13_4 := hB13.b nb12
   have q15' := (q13'.below hB13.below)
   have k13_1 := kt hg13 1 (kt hg11 1 k_10_1)
   have k13_2 := kt hg13 2 (kt hg11 2 k_10_2)
   have k13_3 := kt hg13 3 (kt hg11 3 k_10_3)
   have k13_4 := kt hg13 4 k11_4
   have k13_5 := kt hg13 5 (kt hg11 5 k_10_5)
   have k13_6 := kt hg13 6 k11_6
   have k13_83 := kt hg13 83 (hB13.is 1)
   refine wp_cond_split (t := decide (1 < (i : Int))) ((fr_eval rfl).trans k13_83) (fun hc16 => ?_) (fun hc16 => ?_)
   ·
    have hc16' := hc16; try simp only [ba] at hc16'
    refine ry 6 [(84, 0), (85, 1), (86, 2), (87, 3), (88, 4), (89, 5)] [[], [0], [1], [2], [3], [], [0, 1, 2, 3, 4, 5]] (rel [is (.pointer (some ⟨(s6 3), 0, none⟩)), is (.int .u8 ((bv i 0))), is (.int .u8 (((bv i 0) % 2))), is (.int .u8 (1 + ((bv i 0) % 2))), iI (1 + ((bv i 0) % 2)), is (.pointer (some ⟨(s11 43), 0, none⟩))])
     ⟨fun f s W h j l m n a => opv rfl rfl (by simp [go_sem, a.e 5 k13_5]) rfl,
  fun f s W h j l m n a => opv rfl rfl (by simp [go_sem, a.e 84 (j 0 rfl), cl (bwb b13_3 h) 0]) rfl,
  fun f s W h j l m n a => by have qu_ : ((bv i 0)).tmod 2 = ((bv i 0) % 2) := Int.tmod_eq_emod_of_nonneg (by omega); have qw_ := IntWalk.u8_in ((bv i 0) % 2) (by omega); exact opv rfl rfl (by simp [go_sem, a.e 85 (j 1 rfl), qu_, qw_]) rfl,
  fun f s W h j l m n a => opv rfl rfl (by simp [go_sem, a.e 86 (j 2 rfl), IntWalk.u8_in (1 + ((bv i 0) % 2)) (by omega)]) rfl,
  fun f s W h j l m n a => by have cv_ := IntWalk.i64_in (1 + ((bv i 0) % 2)) (by omega); exact opv rfl rfl (by simp [go_sem, a.e 87 (j 3 rfl), cv_]) rfl,
  fun f s W h j l m n a => opv rfl rfl (by simp [go_sem, a.e 6 k13_6]) rfl, trivial⟩ ?_
    intro f14 s14 W14 hB14 g14 hg14 z14
    have fB14 := hB14.f fB13
    have b14_0 := hB14.b b13_0
    have b14_1 := hB14.b b13_1
    have b14_2 := hB14.b b13_2
    have b14_3 := hB14.b b13_3
    have b14_4 := hB14.b b13_4
    have q16' := (q15'.below hB14.below)
    have k14_1 := kt hg14 1 k13_1
    have k14_2 := kt hg14 2 k13_2
    have k14_3 := kt hg14 3 k13_3
    have k14_4 := kt hg14 4 k13_4
    have k14_5 := kt hg14 5 k13_5
    have k14_6 := kt hg14 6 k13_6
    have k14_88 := kt hg14 88 (hB14.is 4)
    have k14_89 := kt hg14 89 (hB14.is 5)
    obtain ⟨W15, hW15⟩ : ∃ W', W' = W14.setRow (s11 43) #[.int .i64 (1 + ((bv i 0) % 2)), .int .i64 (50 + (bv i 1)), .int .i64 (50 + (bv i 2)), .int .i64 ((50 + (bv i 2)) + ((bv i 0) / 8)), .int .i64 (((bv i 3) % 100)), .int .i64 (((bv i 3) % 100) + ((bv i 3) / 16)), .int .i64 (1000 * (bv i 4)), .int .i64 (10 * (bv i 5))] := ⟨_, rfl⟩
    refine tsk (o := _) rfl ⟨rfl, rfl⟩ (run_seg hW15 (fr_ev k14_89) (fr_ev k14_88) b14_4 rfl rfl rfl rfl) ?_
    obtain ⟨fB15, nb15, ot15, z15⟩ := sgf hW15 fB14 b14_4 (by omega)
    clear hW15
    have b15_0 := ot15 _ _ (by omega) b14_0
    have b15_1 := ot15 _ _ (by omega) b14_1
    have b15_2 := ot15 _ _ (by omega) b14_2
    have b15_3 := ot15 _ _ (by omega) b14_3
    have q17' := q16'.other ot15 ((fun g e => by have := limA g e; omega)) z15
    refine wpe ?_
    exact J14' _ _ ⟨k14_1, k14_2, k14_3, k14_4, k14_5, k14_6, fB15, (by omega), b15_0, b15_1, b15_2, b15_3, (by rw [show (paZ bv i).kind = 1 + ((bv i 0) % 2) from if_pos (by omega)]; exact nb15), q17'⟩
   ·
    have hc16' := hc16; try simp only [ba] at hc16'
    refine wp_skip ?_
    exact J14' _ _ ⟨k13_1, k13_2, k13_3, k13_4, k13_5, k13_6, fB13, (by omega), b13_0, b13_1, b13_2, b13_3, (by rw [show (paZ bv i).kind = 1 + (i : Int) from if_neg (by omega)]; exact b13_4), q15'⟩
  rintro g_18 W_18 ⟨k_18_1, k_18_2, k_18_3, k_18_4, k_18_5, k_18_6, fB_18, z_18, b_18_0, b_18_1, b_18_2, b_18_3, m_18_0, q19'⟩
  refine hK14 _ _ ?_
  refine ry 4 [(90, 0), (91, 1), (92, 2), (93, 3), (94, 4), (95, 5)] [[], [0], [], [2], [0, 1, 2, 3], [0, 1, 2, 3, 4], [0, 1, 2, 3, 4, 5]] (rel [is (.pointer (some ⟨(s2 1), 0, none⟩)), is (.slice ar' i cr'), is (.agg #[.int .i64 ((paZ bv i).kind), .int .i64 ((paZ bv i).weight), .int .i64 ((paZ bv i).t1), .int .i64 ((paZ bv i).t2), .int .i64 ((paZ bv i).m1), .int .i64 ((paZ bv i).m2), .int .i64 ((paZ bv i).price), .int .i64 ((paZ bv i).strong)]), row 3 1 #[.int .i64 ((paZ bv i).kind), .int .i64 ((paZ bv i).weight), .int .i64 ((paZ bv i).t1), .int .i64 ((paZ bv i).t2), .int .i64 ((paZ bv i).m1), .int .i64 ((paZ bv i).m2), .int .i64 ((paZ bv i).price), .int .i64 ((paZ bv i).strong)] 103])
   ⟨fun f s W h j l m n a => opv rfl rfl (by simp [go_sem, a.e 3 k_18_3]) rfl,
  fun f s W h j l m n a => opv rfl rfl (by simp [go_sem, a.e 90 (j 0 rfl), cl (bwb b_18_2 h) 0]) rfl,
  fun f s W h j l m n a => opv rfl rfl (by simp [go_sem, a.e 6 k_18_6, cl (bwb m_18_0 h) 0, cl (bwb m_18_0 h) 1, cl (bwb m_18_0 h) 2, cl (bwb m_18_0 h) 3, cl (bwb m_18_0 h) 4, cl (bwb m_18_0 h) 5, cl (bwb m_18_0 h) 6, cl (bwb m_18_0 h) 7]) rfl,
  fun f s W h j l m n a => opr rfl rfl (by simp [go_sem, a.e 92 (j 2 rfl)]), trivial⟩ ?_
  intro f16 s16 W16 hB16 g16 hg16 z16
  have fB16 := hB16.f fB_18
  have b16_0 := hB16.b b_18_0
  have b16_1 := hB16.b b_18_1
  have b16_2 := hB16.b b_18_2
  have q20' := (q19'.below hB16.below)
  obtain ⟨r16_3, br16_3⟩ := hB16.is 3
  have lr16_3 := hB16.lr 3 br16_3
  have k16_91 := kt hg16 91 (hB16.is 1)
  have k16_93 := kt hg16 93 r16_3
  obtain ⟨ga17, ca17, W17, ra17, ow17, ot17, z17, gg17, fB17⟩ := growN_tail 65 65 103 8 64 _ (by kernel_rfl) Try.infoP rfl (paL (paZ bv) (i + 1)) (i + 1) (off := 0) (k := 1) (c' := 1) [.int .i64 ((paZ bv i).kind), .int .i64 ((paZ bv i).weight), .int .i64 ((paZ bv i).t1), .int .i64 ((paZ bv i).t2), .int .i64 ((paZ bv i).m1), .int .i64 ((paZ bv i).m2), .int .i64 ((paZ bv i).price), .int .i64 ((paZ bv i).strong)] fB16 q20' rfl rfl rfl rfl (cells_at br16_3) (by omega)
  refine tail_value2 (o := _) rfl rfl rfl (run_appendOp (fr_ev k16_91) (fr_ev k16_93) ra17) ?_
  have b17_0 := ot17 _ _ (ownN_ne q20' b16_0) b16_0
  have b17_1 := ot17 _ _ (ownN_ne q20' b16_1) b16_1
  have b17_2 := ot17 _ _ (ownN_ne q20' b16_2) b16_2
  have on17 : OwnN 103 8 w.heap.size (i + 1) (paL (paZ bv) (i + 1)) (some ⟨ga17, 0, none⟩) ca17 W17 := .inr ⟨_, rfl, ow17⟩
  generalize hg17 : upd g16 94 (.slice (some ⟨ga17, 0, none⟩) ((i + 1)) (ca17)) = g17
  have k17_3 := ku hg17 3 (kt hg16 3 k_18_3)
  refine tail_value (o := _) rfl rfl rfl (v := .pointer (some ⟨(s2 1), 0, none⟩)) (by simp [go_sem, frv 159 k17_3]) ?_
  generalize hg18 : upd g17 95 (.pointer (some ⟨(s2 1), 0, none⟩)) = g18
  have k18_4 := ku hg18 4 (ku hg17 4 (kt hg16 4 k_18_4))
  have k18_94 := ku hg18 94 (kt hg17 94 (upd_same _ _ _))
  have k18_95 := kt hg18 95 (upd_same _ _ _)
  obtain ⟨W19, hW19⟩ : ∃ W', W' = W17.setRow (s2 1) #[.slice (some ⟨ga17, 0, none⟩) ((i + 1)) (ca17), .slice none 0 0] := ⟨_, rfl⟩
  refine tsk (o := _) rfl ⟨rfl, rfl⟩ (run_seg hW19 (fr_ev k18_95) (fr_ev k18_94) b17_2 rfl rfl rfl rfl) ?_
  obtain ⟨fB19, nb19, ot19, z19⟩ := sgf hW19 fB17 b17_2 (by omega)
  clear hW19
  have b19_0 := ot19 _ _ (by omega) b17_0
  have b19_1 := ot19 _ _ (by omega) b17_1
  have q21' := on17.other ot19 (ownN_ne on17 b17_2) z19
  refine wpe ?_
  refine ibn ?_
  refine hK8 _ _ ?_
  refine ry 3 [(24, 0), (25, 1), (4, 2)] [[], [0], [0, 1]] (rel [iI ((i : Int)), iI ((i : Int) + 1), iI ((i : Int) + 1)])
   ⟨fun f s W h j l m n a => opm (a.v 4 ((m 2 4 rfl rfl).trans k18_4)),
  fun f s W h j l m n a => opv rfl rfl (by simp [go_sem, a.e 24 (j 0 rfl), IntWalk.i64_in ((i : Int) + 1) (by omega)]) rfl,
  fun f s W h j l m n a => opm (a.v 25 (j 1 rfl)), trivial⟩ ?_
  intro f20 s20 W20 hB20 g20 hg20 z20
  have fB20 := hB20.f fB19
  have b20_0 := hB20.b b19_0
  have b20_1 := hB20.b b19_1
  have b20_2 := hB20.b nb19
  have q22' := (q21'.below hB20.below)
  refine wpe ?_
  have k20_1 := kt hg20 1 (ku hg18 1 (ku hg17 1 (kt hg16 1 k_18_1)))
  have k20_2 := kt hg20 2 (ku hg18 2 (ku hg17 2 (kt hg16 2 k_18_2)))
  have k20_3 := kt hg20 3 (ku hg18 3 k17_3)
  have k20_4 := kt hg20 4 (hB20.is 2)
  refine then_normal ?_
  exact ⟨_, by omega, g20, rfl, i + 1, some ⟨ga17, 0, none⟩, ca17, rfl, k20_1, k20_2, k20_3, k20_4.trans (by go_num), fB20, (by omega), b20_0, b20_1, b20_2, q22', (by omega)⟩
 ·
  have hc7' := hc7; try simp only [ba] at hc7'
  have hiP : i = nP := by omega
  refine wp_exit ?_
  refine then_exit ?_
  refine then_exit ?_
  refine inBlock_at ?_
  refine hK3 _ _ ?_
  refine wp_seq_k fun K17 hK17 => ?_
  refine rw_ 1 [(7, 0)] [[]] (rel [iI 0])
   ⟨fun f s W h j l m n a => opz, trivial⟩ ?_
  intro f21 s21 W21 hB21 g21 hg21 z21
  have fB21 := hB21.f fB5
  have b21_0 := hB21.b b5_0
  have b21_1 := hB21.b b5_1
  have b21_2 := hB21.b b5_2
  have q23' := (q3'.below hB21.below)
  have k21_1 := kt hg21 1 k5_1
  have k21_2 := kt hg21 2 k5_2
  have k21_3 := kt hg21 3 k5_3
  have k21_7 := kt hg21 7 (hB21.is 0)
  have om0 : OwnN 105 4 w.heap.size 0 (fuL (fuW fb) 0) none 0 W21 := ownN_nil
  refine wp_block ?_
  refine wp_loop_n (fun m_ a_ W_ => ∃ g_ : Nat → Value, a_ = fr 159 g_ ∧ (∃ u : Nat, ∃ as' : Option Addr, ∃ cs' : Nat, m_ = nF - u ∧ g_ 1 = .pointer (some ⟨(s1 0), 0, none⟩) ∧ g_ 2 = .pointer (some ⟨(s1 1), 0, none⟩) ∧ g_ 3 = .pointer (some ⟨(s2 1), 0, none⟩) ∧ g_ 7 = .int .i64 ((u : Int)) ∧ Below w.heap.size w W_ ∧ W21.heap.size ≤ W_.heap.size ∧ W_.heap[(s1 0)]? = some (.cells #[.slice ap np cp, .slice af nf cf, .slice ay nb cb] 60 (0, 0)) ∧ W_.heap[(s1 1)]? = some (.cells #[.slice none 0 0, .slice none 0 0] 68 (0, 0)) ∧ W_.heap[(s2 1)]? = some (.cells #[.slice ar' i cr', .slice as' u cs'] 68 (0, 0)) ∧ OwnN 103 8 w.heap.size i (paL (paZ bv) i) ar' cr' W_ ∧ OwnN 105 4 w.heap.size u (fuL (fuW fb) u) as' cs' W_ ∧ (u ≤ nF))) ⟨_, g21, rfl, 0, none, 0, rfl, k21_1, k21_2, k21_3, k21_7.trans (by rfl), fB21, Nat.le_refl _, b21_0, b21_1, b21_2, q23', om0, (by omega)⟩ ?_
  rintro _ _ W_24 ⟨g_24, rfl, u, as', cs', rfl, k_24_1, k_24_2, k_24_3, k_24_7, fB_24, z_24, b_24_0, b_24_1, m_24_0, q25', q26', lu0⟩
  have hu_ := hwb.2.1 u
  have hu0_ := hu_ 0
  have hu1_ := hu_ 1
  have hu2_ := hu_ 2
  have hm_ := fuW_mul hwb.2.1 u
  refine wp_seq_k fun K19 hK19 => ?_
  refine rw_ 13 [(96, 0), (97, 1), (98, 2), (99, 3), (100, 4), (101, 5), (102, 6), (103, 7), (104, 8), (105, 9), (106, 10), (107, 11), (108, 12)] [[], [0], [1], [2], [2], [2, 4], [2, 5], [2, 3, 6], [2, 7], [8], [8, 9], [2, 8, 10], [2, 11]] (rel [iI ((u : Int)), iB ((u : Int) == 0), iB ((u : Int) == 0), gd ((u : Int) == 0) false (iI ((u : Int))), gd ((u : Int) == 0) false (is (.pointer (some ⟨(s1 0), 1, none⟩))), gd ((u : Int) == 0) false (is (.slice af nf cf)), gd ((u : Int) == 0) false (iI ((nf : Int))), gd ((u : Int) == 0) false (iB (decide ((u : Int) < (nf : Int)))), gd ((u : Int) == 0) false (iB (decide ((u : Int) < (nf : Int)))), gd ((u : Int) == 0) false (gd (decide ((u : Int) < (nf : Int))) true (iI ((u : Int)))), gd ((u : Int) == 0) false (gd (decide ((u : Int) < (nf : Int))) true (iB (decide ((u : Int) < 3)))), gd ((u : Int) == 0) false (iB ((decide ((u : Int) < (nf : Int))) && (decide ((u : Int) < 3)))), iB (((u : Int) == 0) || ((decide ((u : Int) < (nf : Int))) && (decide ((u : Int) < 3))))])
   ⟨fun f s W h j l m n a => opm (a.v 7 k_24_7),
  fun f s W h j l m n a => opv rfl rfl (by simp [go_sem, a.e 96 (j 0 rfl)]) rfl,
  fun f s W h j l m n a => opm (a.v 97 (j 1 rfl)),
  fun f s W h j l m n a => gdo rfl rfl (a.says (d := 98) rfl rfl (j 2 rfl)) fun hgd0 => gv (by simp [go_sem, a.e 7 k_24_7]) rfl,
  fun f s W h j l m n a => gdo rfl rfl (a.says (d := 98) rfl rfl (j 2 rfl)) fun hgd0 => gv (by simp [go_sem, a.e 1 k_24_1]) rfl,
  fun f s W h j l m n a => gdo rfl rfl (a.says (d := 98) rfl rfl (j 2 rfl)) fun hgd0 => gv (by simp [go_sem, a.e 100 ((j 4 rfl).1 hgd0), cl (bwb b_24_0 h) 1]) rfl,
  fun f s W h j l m n a => gdo rfl rfl (a.says (d := 98) rfl rfl (j 2 rfl)) fun hgd0 => gv (by simp [go_sem, a.e 101 ((j 5 rfl).1 hgd0)]) rfl,
  fun f s W h j l m n a => gdo rfl rfl (a.says (d := 98) rfl rfl (j 2 rfl)) fun hgd0 => gv (by simp [go_sem, a.e 99 ((j 3 rfl).1 hgd0), a.e 102 ((j 6 rfl).1 hgd0)]) rfl,
  fun f s W h j l m n a => gdo rfl rfl (a.says (d := 98) rfl rfl (j 2 rfl)) fun hgd0 => gv (by simp [go_sem, a.e 103 ((j 7 rfl).1 hgd0)]) rfl,
  fun f s W h j l m n a => gdo2 rfl rfl a (d := 104) rfl rfl (j 8 rfl) fun hgd0 hgd1 => gv (by simp [go_sem, a.e 7 k_24_7]) rfl,
  fun f s W h j l m n a => gdo2 rfl rfl a (d := 104) rfl rfl (j 8 rfl) fun hgd0 hgd1 => gv (by simp [go_sem, a.e 105 (((j 9 rfl).1 hgd0).1 hgd1)]) rfl,
  fun f s W h j l m n a => gdo rfl rfl (a.says (d := 98) rfl rfl (j 2 rfl)) fun hgd0 => gk (c := decide ((u : Int) < (nf : Int))) (fun hpk => by first | (simp [go_sem, hpk, a.e 104 ((j 8 rfl).1 hgd0)]; done) | (have hpk' := hpk; simp at hpk'; simp [go_sem, hpk', hpk, a.e 104 ((j 8 rfl).1 hgd0)]; done) | (have hpk' := of_decide_eq_false hpk; simp only [Int.ofNat_lt] at hpk'; simp [go_sem, hpk', hpk, a.e 104 ((j 8 rfl).1 hgd0)])) (fun hpk => by first | (simp [go_sem, hpk, a.e 104 ((j 8 rfl).1 hgd0), a.e 106 (((j 10 rfl).1 hgd0).1 hpk)]; done) | (have hpk' := hpk; simp at hpk'; simp [go_sem, hpk', hpk, a.e 104 ((j 8 rfl).1 hgd0), a.e 106 (((j 10 rfl).1 hgd0).1 hpk)]; done) | (have hpk' := of_decide_eq_false hpk; simp only [Int.ofNat_lt] at hpk'; simp [go_sem, hpk', hpk, a.e 104 ((j 8 rfl).1 hgd0), a.e 106 (((j 10 rfl).1 hgd0).1 hpk)])),
  fun f s W h j l m n a => opk (c := (u : Int) == 0) rfl rfl (fun hpk => by first | (simp [go_sem, hpk, a.e 98 (j 2 rfl), a.e 107 ((j 11 rfl).1 hpk)]; done) | (have hpk' := hpk; simp at hpk'; simp [go_sem, hpk', hpk, a.e 98 (j 2 rfl), a.e 107 ((j 11 rfl).1 hpk)]; done) | (have hpk' := of_decide_eq_false hpk; simp only [Int.ofNat_lt] at hpk'; simp [go_sem, hpk', hpk, a.e 98 (j 2 rfl), a.e 107 ((j 11 rfl).1 hpk)])) (fun hpk => by first | (simp [go_sem, hpk, a.e 98 (j 2 rfl)]; done) | (have hpk' := hpk; simp at hpk'; simp [go_sem, hpk', hpk, a.e 98 (j 2 rfl)]; done) | (have hpk' := of_decide_eq_false hpk; simp only [Int.ofNat_lt] at hpk'; simp [go_sem, hpk', hpk, a.e 98 (j 2 rfl)])), trivial⟩ ?_
  intro f22 s22 W22 hB22 g22 hg22 z22
  have fB22 := hB22.f fB_24
  have b22_1 := hB22.b b_24_1
  have b22_2 := hB22.b m_24_0
  have q27' := (q25'.below hB22.below)
  have q28' := (q26'.below hB22.below)
  have k22_2 := kt hg22 2 k_24_2
  have k22_3 := kt hg22 3 k_24_3
  have k22_108 := kt hg22 108 (hB22.is 12)
  refine wp_cond_split (t := ((u : Int) == 0) || ((decide ((u : Int) < (nf : Int))) && (decide ((u : Int) < 3)))) ((fr_eval rfl).trans k22_108) (fun hc21 => ?_) (fun hc21 => ?_)
  ·
   have hc21' := hc21; try simp only [ba] at hc21'
   have hun : u < nF := by omega
   have hu3 : u < 3 := by omega
   refine wp_skip ?_
   refine hK19 _ _ ?_
   refine wp_seq_k fun K22 hK22 => ?_
   refine wp_block ?_
   refine wp_seq_k fun K23 hK23 => ?_
   refine ry 2 [(111, 0), (8, 1)] [[], [], [0, 1]] (rel [is (.agg #[.int .u8 80, .int .u8 128, .int .u8 36]), bx 1 #[.int .u8 0, .int .u8 0, .int .u8 0] 24])
    ⟨fun f s W h j l m n a => opv rfl rfl (by simp [go_sem]) rfl,
  fun f s W h j l m n a => opb rfl rfl (by simp [go_sem]), trivial⟩ ?_
   intro f23 s23 W23 hB23 g23 hg23 z23
   have fB23 := hB23.f fB22
   have b23_0 := hB23.b (hB22.b b_24_0)
   have b23_1 := hB23.b b22_1
   have b23_2 := hB23.b b22_2
   have q29' := (q27'.below hB23.below)
   have q30' := (q28'.below hB23.below)
   obtain ⟨r23_1, br23_1⟩ := hB23.is 1
   have lr23_1 := hB23.lr 1 br23_1
   have k23_1 := kt hg23 1 (kt hg22 1 k_24_1)
   have k23_2 := kt hg23 2 k22_2
   have k23_3 := kt hg23 3 k22_3
   have k23_7 := kt hg23 7 (kt hg22 7 k_24_7)
   have k23_111 := kt hg23 111 (hB23.is 0)
   have k23_8 := kt hg23 8 r23_1
   obtain ⟨W24, hW24⟩ : ∃ W', W' = W23.setRow (s23 1) #[.int .u8 80, .int .u8 128, .int .u8 36] := ⟨_, rfl⟩
   refine tsk (o := _) rfl ⟨rfl, rfl⟩ (run_seg hW24 (fr_ev k23_8) (fr_ev k23_111) br23_1 rfl rfl rfl rfl) ?_
   obtain ⟨fB24, nb24, ot24, z24⟩ := sgf hW24 fB23 br23_1 (by omega)
   clear hW24
   have b24_0 := ot24 _ _ (by omega) b23_0
   have b24_1 := ot24 _ _ (by omega) b23_1
   have b24_2 := ot24 _ _ (by omega) b23_2
   have q31' := q29'.other ot24 (ownN_ne q29' br23_1) z24
   have q32' := q30'.other ot24 (ownN_ne q30' br23_1) z24
   refine wpe ?_
   refine hK23 _ _ ?_
   refine wp_seq_k fun K24 hK24 => ?_
   suffices J33' : ∀ (g_ : Nat → Value) (W_ : World), (g_ 1 = .pointer (some ⟨(s1 0), 0, none⟩) ∧ g_ 2 = .pointer (some ⟨(s1 1), 0, none⟩) ∧ g_ 3 = .pointer (some ⟨(s2 1), 0, none⟩) ∧ g_ 7 = .int .i64 ((u : Int)) ∧ g_ 8 = .pointer (some ⟨(s23 1), 0, none⟩) ∧ Below w.heap.size w W_ ∧ W24.heap.size ≤ W_.heap.size ∧ W_.heap[(s1 0)]? = some (.cells #[.slice ap np cp, .slice af nf cf, .slice ay nb cb] 60 (0, 0)) ∧ W_.heap[(s1 1)]? = some (.cells #[.slice none 0 0, .slice none 0 0] 68 (0, 0)) ∧ W_.heap[(s2 1)]? = some (.cells #[.slice ar' i cr', .slice as' u cs'] 68 (0, 0)) ∧ W_.heap[(s23 1)]? = some (.cells #[.int .u8 ((fb u 0)), .int .u8 ((fb u 1)), .int .u8 ((fb u 2))] 24 (0, 0)) ∧ OwnN 103 8 w.heap.size i (paL (paZ bv) i) ar' cr' W_ ∧ OwnN 105 4 w.heap.size u (fuL (fuW fb) u) as' cs' W_) → K24 (fr 159 g_) W_ by
    refine rw_ 5 [(112, 0), (113, 1), (114, 2), (115, 3), (116, 4)] [[], [], [1], [2], [0, 3]] (rel [iI ((u : Int)), is (.pointer (some ⟨(s1 0), 1, none⟩)), is (.slice af nf cf), iI ((nf : Int)), iB (decide ((u : Int) < (nf : Int)))])
     ⟨fun f s W h j l m n a => opm (a.v 7 k23_7),
  fun f s W h j l m n a => opv rfl rfl (by simp [go_sem, a.e 1 k23_1]) rfl,
  fun f s W h j l m n a => opv rfl rfl (by simp [go_sem, a.e 113 (j 1 rfl), cl (bwb b24_0 h) 1]) rfl,
  fun f s W h j l m n a => opv rfl rfl (by simp [go_sem, a.e 114 (j 2 rfl)]) rfl,
  fun f s W h j l m n a => opv rfl rfl (by simp [go_sem, a.e 112 (j 0 rfl), a.e 115 (j 3 rfl)]) rfl, trivial⟩ ?_
    intro f25 s25 W25 hB25 g25 hg25 z25
    have fB25 := hB25.f fB24
    have b25_0 := hB25.b b24_0
    have b25_1 := hB25.b b24_1
    have b25_2 := hB25.b b24_2
    have b25_3 := hB25.b nb24
    have q34' := (q31'.below hB25.below)
    have q35' := (q32'.below hB25.below)
    have k25_1 := kt hg25 1 k23_1
    have k25_2 := kt hg25 2 k23_2
    have k25_3 := kt hg25 3 k23_3
    have k25_7 := kt hg25 7 k23_7
    have k25_8 := kt hg25 8 k23_8
    have k25_116 := kt hg25 116 (hB25.is 4)
    refine wp_cond_split (t := decide ((u : Int) < (nf : Int))) ((fr_eval rfl).trans k25_116) (fun hc26 => ?_) (fun hc26 => ?_)
    ·
     have hc26' := hc26; try simp only [ba] at hc26'
     refine ry 5 [(117, 0), (118, 1), (119, 2), (120, 3), (121, 4)] [[], [0], [], [1, 2], [3], [0, 1, 2, 3, 4]] (rel [is (.pointer (some ⟨(s1 0), 1, none⟩)), is (.slice af nf cf), iI ((u : Int)), is (.pointer (some ⟨bf, of + u * 3, none⟩)), is (.agg #[.int .u8 ((fb u 0)), .int .u8 ((fb u 1)), .int .u8 ((fb u 2))])])
      ⟨fun f s W h j l m n a => opv rfl rfl (by simp [go_sem, a.e 1 k25_1]) rfl,
  fun f s W h j l m n a => opv rfl rfl (by simp [go_sem, a.e 117 (j 0 rfl), cl (bwb b25_0 h) 1]) rfl,
  fun f s W h j l m n a => opm (a.v 7 k25_7),
  fun f s W h j l m n a => by have hab := (hRf_ (by omega)).1; have li_ := Nat.not_le.2 (show u < nf by omega); have li2_ : (u : Int) < (nf : Int) := (by omega); exact opv rfl rfl (by simp [go_sem, a.e 118 (j 1 rfl), a.e 119 (j 2 rfl), hab, li_, li2_]) rfl,
  fun f s W h j l m n a => by have p := bwt fB25 h; have cu0_ : W.cell? ⟨bf, of + u * 3, none⟩ = some (.int .u8 (fb u 0)) := (hRf_ (by omega)).2 W p u 0 (by omega) (by decide); have cu1_ : W.cell? ⟨bf, of + u * 3 + 1, none⟩ = some (.int .u8 (fb u 1)) := (hRf_ (by omega)).2 W p u 1 (by omega) (by decide); have cu2_ : W.cell? ⟨bf, of + u * 3 + 2, none⟩ = some (.int .u8 (fb u 2)) := (hRf_ (by omega)).2 W p u 2 (by omega) (by decide); exact opv rfl rfl (by simp [go_sem, a.e 120 (j 3 rfl), cu0_, cu1_, cu2_]) rfl, trivial⟩ ?_
     intro f26 s26 W26 hB26 g26 hg26 z26
     have fB26 := hB26.f fB25
     have b26_0 := hB26.b b25_0
     have b26_1 := hB26.b b25_1
     have b26_2 := hB26.b b25_2
     have b26_3 := hB26.b b25_3
     have q36' := (q34'.below hB26.below)
     have q37' := (q35'.below hB26.below)
     have k26_1 := kt hg26 1 k25_1
     have k26_2 := kt hg26 2 k25_2
     have k26_3 := kt hg26 3 k25_3
     have k26_7 := kt hg26 7 k25_7
     have k26_8 := kt hg26 8 k25_8
     have k26_121 := kt hg26 121 (hB26.is 4)
     obtain ⟨W27, hW27⟩ : ∃ W', W' = W26.setRow (s23 1) #[.int .u8 ((fb u 0)), .int .u8 ((fb u 1)), .int .u8 ((fb u 2))] := ⟨_, rfl⟩
     refine tsk (o := _) rfl ⟨rfl, rfl⟩ (run_seg hW27 (fr_ev k26_8) (fr_ev k26_121) b26_3 rfl rfl rfl rfl) ?_
     obtain ⟨fB27, nb27, ot27, z27⟩ := sgf hW27 fB26 b26_3 (by omega)
     clear hW27
     have b27_0 := ot27 _ _ (by omega) b26_0
     have b27_1 := ot27 _ _ (by omega) b26_1
     have b27_2 := ot27 _ _ (by omega) b26_2
     have q38' := q36'.other ot27 (ownN_ne q36' b26_3) z27
     have q39' := q37'.other ot27 (ownN_ne q37' b26_3) z27
     refine wpe ?_
     exact J33' _ _ ⟨k26_1, k26_2, k26_3, k26_7, k26_8, fB27, (by omega), b27_0, b27_1, b27_2, nb27, q38', q39'⟩
    ·
     have hc26' := hc26; try simp only [ba] at hc26'
     refine wp_skip ?_
     exact J33' _ _ ⟨k25_1, k25_2, k25_3, k25_7, k25_8, fB25, (by omega), b25_0, b25_1, b25_2, (by obtain ⟨e0, e1, e2⟩ := hwb.2.2.2 u (by omega); rw [e0, e1, e2]; exact b25_3), q34', q35'⟩
   rintro g_40 W_40 ⟨k_40_1, k_40_2, k_40_3, k_40_7, k_40_8, fB_40, z_40, b_40_0, b_40_1, b_40_2, m_40_0, q41', q42'⟩
   refine hK24 _ _ ?_
   refine rw_ 6 [(122, 0), (123, 1), (124, 2), (125, 3), (126, 4), (9, 5)] [[], [0], [1], [2], [3], [4]] (rel [is (.pointer (some ⟨(s23 1), 0, none⟩)), is (.int .u8 ((fb u 0))), iI ((fb u 0)), iI (35 * (fb u 0)), iI (1000 + (35 * (fb u 0))), iI (1000 + (35 * (fb u 0)))])
    ⟨fun f s W h j l m n a => opv rfl rfl (by simp [go_sem, a.e 8 k_40_8]) rfl,
  fun f s W h j l m n a => opv rfl rfl (by simp [go_sem, a.e 122 (j 0 rfl), cl (bwb m_40_0 h) 0]) rfl,
  fun f s W h j l m n a => by have cv_ := IntWalk.i64_in ((fb u 0)) (by omega); exact opv rfl rfl (by simp [go_sem, a.e 123 (j 1 rfl), cv_]) rfl,
  fun f s W h j l m n a => opv rfl rfl (by simp [go_sem, a.e 124 (j 2 rfl), IntWalk.i64_in (35 * (fb u 0)) (by omega)]) rfl,
  fun f s W h j l m n a => opv rfl rfl (by simp [go_sem, a.e 125 (j 3 rfl), IntWalk.i64_in (1000 + (35 * (fb u 0))) (by omega)]) rfl,
  fun f s W h j l m n a => opm (a.v 126 (j 4 rfl)), trivial⟩ ?_
   intro f28 s28 W28 hB28 g28 hg28 z28
   have fB28 := hB28.f fB_40
   have b28_0 := hB28.b b_40_0
   have b28_1 := hB28.b b_40_1
   have b28_2 := hB28.b b_40_2
   have b28_3 := hB28.b m_40_0
   have q43' := (q41'.below hB28.below)
   have q44' := (q42'.below hB28.below)
   have k28_1 := kt hg28 1 k_40_1
   have k28_2 := kt hg28 2 k_40_2
   have k28_3 := kt hg28 3 k_40_3
   have k28_7 := kt hg28 7 k_40_7
   have k28_8 := kt hg28 8 k_40_8
   have k28_9 := kt hg28 9 (hB28.is 5)
   refine ry 29 [(127, 0), (128, 1), (129, 2), (130, 3), (131, 4), (132, 5), (133, 6), (134, 7), (135, 8), (136, 9), (137, 10), (138, 11), (139, 12), (140, 13), (141, 14), (142, 15), (143, 16), (144, 17), (145, 18), (146, 19), (147, 20), (148, 21), (149, 22), (150, 23), (151, 24), (152, 25), (153, 26), (154, 27), (155, 28), (156, 29), (157, 30)] [[], [0], [], [], [], [], [5], [5, 6], [4, 5, 6, 7], [4, 5, 6, 7, 8], [3, 4, 5, 6, 7, 8, 9], [], [11], [11, 12], [11, 12, 13], [11, 12, 13, 14], [], [16], [16, 17], [16, 17, 18], [16, 17, 18, 19], [], [21], [21, 22], [21, 22, 23], [16, 17, 18, 19, 20, 21, 22, 23, 24], [11, 12, 13, 14, 15, 16, 17, 18, 19, 20, 21, 22, 23, 24, 25], [2, 3, 4, 5, 6, 7, 8, 9, 10, 11, 12, 13, 14, 16, 17, 18, 19, 20, 21, 22, 23, 24, 26], [2, 3, 4, 5, 6, 7, 8, 9, 10, 11, 12, 13, 14, 16, 17, 18, 19, 20, 21, 22, 23, 24, 27], [0, 1, 2, 3, 4, 5, 6, 7, 8, 9, 10, 11, 12, 13, 14, 15, 16, 17, 18, 19, 20, 21, 22, 23, 24, 25, 26, 27, 28], [0, 1, 2, 3, 4, 5, 6, 7, 8, 9, 10, 11, 12, 13, 14, 15, 16, 17, 18, 19, 20, 21, 22, 23, 24, 25, 26, 27, 28, 29], [0, 1, 2, 3, 4, 5, 6, 7, 8, 9, 10, 11, 12, 13, 14, 15, 16, 17, 18, 19, 20, 21, 22, 23, 24, 25, 26, 27, 28, 29, 30]] (rel [is (.pointer (some ⟨(s2 1), 1, none⟩)), is (.slice as' u cs'), iI (1000 + (35 * (fb u 0))), iI (1000 + (35 * (fb u 0))), iI (1000 + (35 * (fb u 0))), is (.pointer (some ⟨(s23 1), 1, none⟩)), is (.int .u8 ((fb u 1))), iI ((fb u 1)), iI ((1000 + (35 * (fb u 0))) * (fb u 1)), iI ((((1000 + (35 * (fb u 0))) * (fb u 1)) / 255)), iI ((1000 + (35 * (fb u 0))) + (((1000 + (35 * (fb u 0))) * (fb u 1)) / 255)), is (.pointer (some ⟨(s23 1), 2, none⟩)), is (.int .u8 ((fb u 2))), iI ((fb u 2)), iI (10 * (fb u 2)), iI (500 + (10 * (fb u 2))), is (.pointer (some ⟨(s23 1), 2, none⟩)), is (.int .u8 ((fb u 2))), iI ((fb u 2)), iI (10 * (fb u 2)), iI (500 + (10 * (fb u 2))), is (.pointer (some ⟨(s23 1), 1, none⟩)), is (.int .u8 ((fb u 1))), iI ((fb u 1)), iI (((fb u 1) % 90)), iI ((500 + (10 * (fb u 2))) + ((fb u 1) % 90)), is (.agg #[.int .i64 (500 + (10 * (fb u 2))), .int .i64 ((500 + (10 * (fb u 2))) + ((fb u 1) % 90))]), is (.agg #[.int .i64 (1000 + (35 * (fb u 0))), .int .i64 ((1000 + (35 * (fb u 0))) + (((1000 + (35 * (fb u 0))) * (fb u 1)) / 255)), .int .i64 (500 + (10 * (fb u 2))), .int .i64 ((500 + (10 * (fb u 2))) + ((fb u 1) % 90))]), row 28 1 #[.int .i64 (1000 + (35 * (fb u 0))), .int .i64 ((1000 + (35 * (fb u 0))) + (((1000 + (35 * (fb u 0))) * (fb u 1)) / 255)), .int .i64 (500 + (10 * (fb u 2))), .int .i64 ((500 + (10 * (fb u 2))) + ((fb u 1) % 90))] 105])
    ⟨fun f s W h j l m n a => opv rfl rfl (by simp [go_sem, a.e 3 k28_3]) rfl,
  fun f s W h j l m n a => opv rfl rfl (by simp [go_sem, a.e 127 (j 0 rfl), cl (bwb b28_2 h) 1]) rfl,
  fun f s W h j l m n a => opm (a.v 9 k28_9),
  fun f s W h j l m n a => opm (a.v 9 k28_9),
  fun f s W h j l m n a => opm (a.v 9 k28_9),
  fun f s W h j l m n a => opv rfl rfl (by simp [go_sem, a.e 8 k28_8]) rfl,
  fun f s W h j l m n a => opv rfl rfl (by simp [go_sem, a.e 132 (j 5 rfl), cl (bwb b28_3 h) 1]) rfl,
  fun f s W h j l m n a => by have cv_ := IntWalk.i64_in ((fb u 1)) (by omega); exact opv rfl rfl (by simp [go_sem, a.e 133 (j 6 rfl), cv_]) rfl,
  fun f s W h j l m n a => opv rfl rfl (by simp [go_sem, a.e 131 (j 4 rfl), a.e 134 (j 7 rfl), IntWalk.i64_in ((1000 + (35 * (fb u 0))) * (fb u 1)) (by omega)]) rfl,
  fun f s W h j l m n a => by have qu_ : ((1000 + (35 * (fb u 0))) * (fb u 1)).tdiv 255 = (((1000 + (35 * (fb u 0))) * (fb u 1)) / 255) := Int.tdiv_eq_ediv_of_nonneg (by omega); have qw_ := IntWalk.i64_in (((1000 + (35 * (fb u 0))) * (fb u 1)) / 255) (by omega); exact opv rfl rfl (by simp [go_sem, a.e 135 (j 8 rfl), qu_, qw_]) rfl,
  fun f s W h j l m n a => opv rfl rfl (by simp [go_sem, a.e 130 (j 3 rfl), a.e 136 (j 9 rfl), IntWalk.i64_in ((1000 + (35 * (fb u 0))) + (((1000 + (35 * (fb u 0))) * (fb u 1)) / 255)) (by omega)]) rfl,
  fun f s W h j l m n a => opv rfl rfl (by simp [go_sem, a.e 8 k28_8]) rfl,
  fun f s W h j l m n a => opv rfl rfl (by simp [go_sem, a.e 138 (j 11 rfl), cl (bwb b28_3 h) 2]) rfl,
  fun f s W h j l m n a => by have cv_ := IntWalk.i64_in ((fb u 2)) (by omega); exact opv rfl rfl (by simp [go_sem, a.e 139 (j 12 rfl), cv_]) rfl,
  fun f s W h j l m n a => opv rfl rfl (by simp [go_sem, a.e 140 (j 13 rfl), IntWalk.i64_in (10 * (fb u 2)) (by omega)]) rfl,
  fun f s W h j l m n a => opv rfl rfl (by simp [go_sem, a.e 141 (j 14 rfl), IntWalk.i64_in (500 + (10 * (fb u 2))) (by omega)]) rfl,
  fun f s W h j l m n a => opv rfl rfl (by simp [go_sem, a.e 8 k28_8]) rfl,
  fun f s W h j l m n a => opv rfl rfl (by simp [go_sem, a.e 143 (j 16 rfl), cl (bwb b28_3 h) 2]) rfl,
  fun f s W h j l m n a => by have cv_ := IntWalk.i64_in ((fb u 2)) (by omega); exact opv rfl rfl (by simp [go_sem, a.e 144 (j 17 rfl), cv_]) rfl,
  fun f s W h j l m n a => opv rfl rfl (by simp [go_sem, a.e 145 (j 18 rfl), IntWalk.i64_in (10 * (fb u 2)) (by omega)]) rfl,
  fun f s W h j l m n a => opv rfl rfl (by simp [go_sem, a.e 146 (j 19 rfl), IntWalk.i64_in (500 + (10 * (fb u 2))) (by omega)]) rfl,
  fun f s W h j l m n a => opv rfl rfl (by simp [go_sem, a.e 8 k28_8]) rfl,
  fun f s W h j l m n a => opv rfl rfl (by simp [go_sem, a.e 148 (j 21 rfl), cl (bwb b28_3 h) 1]) rfl,
  fun f s W h j l m n a => by have cv_ := IntWalk.i64_in ((fb u 1)) (by omega); exact opv rfl rfl (by simp [go_sem, a.e 149 (j 22 rfl), cv_]) rfl,
  fun f s W h j l m n a => by have qu_ : ((fb u 1)).tmod 90 = ((fb u 1) % 90) := Int.tmod_eq_emod_of_nonneg (by omega); have qw_ := IntWalk.i64_in ((fb u 1) % 90) (by omega); exact opv rfl rfl (by simp [go_sem, a.e 150 (j 23 rfl), qu_, qw_]) rfl,
  fun f s W h j l m n a => opv rfl rfl (by simp [go_sem, a.e 147 (j 20 rfl), a.e 151 (j 24 rfl), IntWalk.i64_in ((500 + (10 * (fb u 2))) + ((fb u 1) % 90)) (by omega)]) rfl,
  fun f s W h j l m n a => opc rfl rfl (by simp [go_sem, a.e 142 (j 15 rfl), a.e 152 (j 25 rfl)]) (armSpan_any (500 + (10 * (fb u 2))) ((500 + (10 * (fb u 2))) + ((fb u 1) % 90)) W),
  fun f s W h j l m n a => opv rfl rfl (by simp [go_sem, a.e 129 (j 2 rfl), a.e 137 (j 10 rfl), a.e 153 (j 26 rfl)]) rfl,
  fun f s W h j l m n a => opr rfl rfl (by simp [go_sem, a.e 154 (j 27 rfl)]), trivial⟩ ?_
   intro f29 s29 W29 hB29 g29 hg29 z29
   have fB29 := hB29.f fB28
   have b29_0 := hB29.b b28_0
   have b29_1 := hB29.b b28_1
   have b29_2 := hB29.b b28_2
   have q45' := (q43'.below hB29.below)
   have q46' := (q44'.below hB29.below)
   obtain ⟨r29_28, br29_28⟩ := hB29.is 28
   have lr29_28 := hB29.lr 28 br29_28
   have k29_128 := kt hg29 128 (hB29.is 1)
   have k29_155 := kt hg29 155 r29_28
   obtain ⟨ga30, ca30, W30, ra30, ow30, ot30, z30, gg30, fB30⟩ := growN_tail 66 66 105 4 32 _ (by kernel_rfl) Try.infoF rfl (fuL (fuW fb) (u + 1)) (u + 1) (off := 0) (k := 1) (c' := 1) [.int .i64 (1000 + (35 * (fb u 0))), .int .i64 ((1000 + (35 * (fb u 0))) + (((1000 + (35 * (fb u 0))) * (fb u 1)) / 255)), .int .i64 (500 + (10 * (fb u 2))), .int .i64 ((500 + (10 * (fb u 2))) + ((fb u 1) % 90))] fB29 q46' rfl rfl rfl rfl (cells_at br29_28) (by omega)
   refine tail_value2 (o := _) rfl rfl rfl (run_appendOp (fr_ev k29_128) (fr_ev k29_155) ra30) ?_
   have b30_0 := ot30 _ _ (ownN_ne q46' b29_0) b29_0
   have b30_1 := ot30 _ _ (ownN_ne q46' b29_1) b29_1
   have b30_2 := ot30 _ _ (ownN_ne q46' b29_2) b29_2
   have q47' := OwnN.otherN q45' q46' ot30 z30
   have on30 : OwnN 105 4 w.heap.size (u + 1) (fuL (fuW fb) (u + 1)) (some ⟨ga30, 0, none⟩) ca30 W30 := .inr ⟨_, rfl, ow30⟩
   generalize hg30 : upd g29 156 (.slice (some ⟨ga30, 0, none⟩) ((u + 1)) (ca30)) = g30
   have k30_3 := ku hg30 3 (kt hg29 3 k28_3)
   refine tail_value (o := _) rfl rfl rfl (v := .pointer (some ⟨(s2 1), 1, none⟩)) (by simp [go_sem, frv 159 k30_3]) ?_
   generalize hg31 : upd g30 157 (.pointer (some ⟨(s2 1), 1, none⟩)) = g31
   have k31_1 := ku hg31 1 (ku hg30 1 (kt hg29 1 k28_1))
   have k31_2 := ku hg31 2 (ku hg30 2 (kt hg29 2 k28_2))
   have k31_3 := ku hg31 3 k30_3
   have k31_7 := ku hg31 7 (ku hg30 7 (kt hg29 7 k28_7))
   have k31_156 := ku hg31 156 (kt hg30 156 (upd_same _ _ _))
   have k31_157 := kt hg31 157 (upd_same _ _ _)
   obtain ⟨W32, hW32⟩ : ∃ W', W' = W30.setRow (s2 1) #[.slice ar' i cr', .slice (some ⟨ga30, 0, none⟩) ((u + 1)) (ca30)] := ⟨_, rfl⟩
   refine tsk (o := _) rfl ⟨rfl, rfl⟩ (run_seg hW32 (fr_ev k31_157) (fr_ev k31_156) b30_2 rfl rfl rfl rfl) ?_
   obtain ⟨fB32, nb32, ot32, z32⟩ := sgf hW32 fB30 b30_2 (by omega)
   clear hW32
   have b32_0 := ot32 _ _ (by omega) b30_0
   have b32_1 := ot32 _ _ (by omega) b30_1
   have q48' := q47'.other ot32 (ownN_ne q47' b30_2) z32
   have q49' := on30.other ot32 (ownN_ne on30 b30_2) z32
   refine wpe ?_
   refine ibn ?_
   refine hK22 _ _ ?_
   refine ry 3 [(109, 0), (110, 1), (7, 2)] [[], [0], [0, 1]] (rel [iI ((u : Int)), iI ((u : Int) + 1), iI ((u : Int) + 1)])
    ⟨fun f s W h j l m n a => opm (a.v 7 ((m 2 7 rfl rfl).trans k31_7)),
  fun f s W h j l m n a => opv rfl rfl (by simp [go_sem, a.e 109 (j 0 rfl), IntWalk.i64_in ((u : Int) + 1) (by omega)]) rfl,
  fun f s W h j l m n a => opm (a.v 110 (j 1 rfl)), trivial⟩ ?_
   intro f33 s33 W33 hB33 g33 hg33 z33
   have fB33 := hB33.f fB32
   have b33_0 := hB33.b b32_0
   have b33_1 := hB33.b b32_1
   have b33_2 := hB33.b nb32
   have q50' := (q48'.below hB33.below)
   have q51' := (q49'.below hB33.below)
   refine wpe ?_
   have k33_1 := kt hg33 1 k31_1
   have k33_2 := kt hg33 2 k31_2
   have k33_3 := kt hg33 3 k31_3
   have k33_7 := kt hg33 7 (hB33.is 2)
   refine then_normal ?_
   exact ⟨_, by omega, g33, rfl, u + 1, some ⟨ga30, 0, none⟩, ca30, rfl, k33_1, k33_2, k33_3, k33_7.trans (by go_num), fB33, (by omega), b33_0, b33_1, b33_2, q50', q51', (by omega)⟩
  ·
   have hc21' := hc21; try simp only [ba] at hc21'
   have huF : u = nF := by omega
   refine wp_exit ?_
   refine then_exit ?_
   refine then_exit ?_
   refine inBlock_at ?_
   refine hK17 _ _ ?_
   refine wp_seq_k fun K28 hK28 => ?_
   refine ry 1 [(158, 0)] [[], [0]] (rel [is (.agg #[.slice ar' i cr', .slice as' u cs'])])
    ⟨fun f s W h j l m n a => opv rfl rfl (by simp [go_sem, a.e 3 k22_3, cl (bwb b22_2 h) 0, cl (bwb b22_2 h) 1]) rfl, trivial⟩ ?_
   intro f34 s34 W34 hB34 g34 hg34 z34
   have fB34 := hB34.f fB22
   have b34_1 := hB34.b b22_1
   have q52' := (q27'.below hB34.below)
   have q53' := (q28'.below hB34.below)
   have k34_2 := kt hg34 2 k22_2
   have k34_158 := kt hg34 158 (hB34.is 0)
   obtain ⟨W35, hW35⟩ : ∃ W', W' = W34.setRow (s1 1) #[.slice ar' i cr', .slice as' u cs'] := ⟨_, rfl⟩
   refine tsk (o := _) rfl ⟨rfl, rfl⟩ (run_seg hW35 (fr_ev k34_2) (fr_ev k34_158) b34_1 rfl rfl rfl rfl) ?_
   obtain ⟨fB35, nb35, ot35, z35⟩ := sgf hW35 fB34 b34_1 (by omega)
   clear hW35
   have q54' := q52'.other ot35 (ownN_ne q52' b34_1) z35
   have q55' := q53'.other ot35 (ownN_ne q53' b34_1) z35
   refine wpe ?_
   refine hK28 _ _ ?_
   refine wp_ret ?_
   refine leave_gen (v := .agg #[.slice ar' i cr', .slice as' u cs']) (.inr rfl) (by simp [results, Try.results15, go_sem, frv 159 k34_2, cl nb35 0, cl nb35 1]) ?_
   obtain ⟨g1', e1', o1'⟩ := OwnN.some' q54' (by omega)
   obtain ⟨g2', e2', o2'⟩ := OwnN.some' q55' (by omega)
   subst e1' e2' hiP huF
   exact ⟨_, rfl, ⟨g1', _, g2', _, rfl, .inr ⟨_, rfl, o1'⟩, .inr ⟨_, rfl, o2'⟩⟩, fB35⟩
end Go.Proofs.Ytolnpbpeifpbjaa
