/- Part of the proof: what the claim leans on. -/
import Derived.Test.YthnediamopehfaaGreatVLES3
set_option maxHeartbeats 8000000
set_option maxRecDepth 100000
set_option linter.unusedSimpArgs false
set_option linter.unusedVariables false
namespace Go.Proofs.YthnediamopehfaaGreat
open Go.RowKit
def dn (n : Int) : Int := n / 1000
def upw (n : Int) : Int := (n + 999) / 1000
theorem down_pos (n : Int) (w : World) (h0 : 0 ≤ n) (jb : n ≤ 1000000000) :
  Calls Tryz.prog 104 #[.int .i64 n] w (fun e w' => e = .returned (.int .i64 (dn n)) ∧ Below w.heap.size w w') := by
 have hn : decide (n < 0) = false := decide_eq_false (by omega)
 refine calls_fr Tryz.func104 Tryz.ntmps104 rfl rfl fun g hg => ?_
 have k0 : g 0 = .int .i64 n := hg 0
 clear hg
 have fB0 : Below w.heap.size w w := Below.refl _ _
 refine rw_ 1 [(2, 0)] [[]] (rel [iI 0])
  ⟨fun f s W b c d h i a => opz, trivial⟩ ?_
 intro f1 s1 W1 hB1 g1 hg1 z1
 have k1_0 := kt hg1 0 k0
 refine wp_seq_k fun K2 hK2 => ?_
 refine rw_ 2 [(3, 0), (4, 1)] [[], [0]] (rel [iI n, iB (decide (n < 0))])
  ⟨fun f s W b c d h i a => opm (a.v 0 k1_0),
  fun f s W b c d h i a => opv rfl rfl (by simp [go_sem, a.e 3 (c 0 rfl)]) rfl, trivial⟩ ?_
 intro f2 s2 W2 hB2 g2 hg2 z2
 have k2_0 := kt hg2 0 k1_0
 have k2_4 := kt hg2 4 (hB2.is 1)
 have hc4 : (fr 11 g2).eval (.tmp 4) = .bool false := ((fr_eval rfl).trans k2_4).trans (by rw [hn])
 refine wp_cond_false (hc4) ?_
 refine wp_skip ?_
 refine hK2 _ _ ?_
 refine rw_ 3 [(9, 0), (10, 1), (2, 2)] [[], [0], [1]] (rel [iI n, iI (n / 1000), iI (n / 1000)])
  ⟨fun f s W b c d h i a => opm (a.v 0 k2_0),
  fun f s W b c d h i a => by have qu_ : (n).tdiv 1000 = n / 1000 := Int.tdiv_eq_ediv_of_nonneg (by omega); have qw_ := IntWalk.i64_in (n / 1000) (by omega); exact opv rfl rfl (by simp [go_sem, a.e 9 (c 0 rfl), qu_, qw_]) rfl,
  fun f s W b c d h i a => opm (a.v 10 (c 1 rfl)), trivial⟩ ?_
 intro f3 s3 W3 hB3 g3 hg3 z3
 have fB3 := hB3.f (hB2.f (hB1.f fB0))
 have k3_2 := kt hg3 2 (hB3.is 2)
 refine wp_ret ?_
 refine leave_one (N := 11) (.inr rfl) Tryz.results104 rfl k3_2 ?_
 exact ⟨rfl, fB3⟩
theorem up_pos (n : Int) (w : World) (h0 : 0 ≤ n) (jb : n ≤ 1000000000) :
  Calls Tryz.prog 105 #[.int .i64 n] w (fun e w' => e = .returned (.int .i64 (upw n)) ∧ Below w.heap.size w w') := by
 have hn : decide (n < 0) = false := decide_eq_false (by omega)
 refine calls_fr Tryz.func105 Tryz.ntmps105 rfl rfl fun g hg => ?_
 have k0 : g 0 = .int .i64 n := hg 0
 clear hg
 have fB0 : Below w.heap.size w w := Below.refl _ _
 refine rw_ 1 [(2, 0)] [[]] (rel [iI 0])
  ⟨fun f s W b c d h i a => opz, trivial⟩ ?_
 intro f1 s1 W1 hB1 g1 hg1 z1
 have k1_0 := kt hg1 0 k0
 refine wp_seq_k fun K2 hK2 => ?_
 refine rw_ 2 [(3, 0), (4, 1)] [[], [0]] (rel [iI n, iB (decide (n < 0))])
  ⟨fun f s W b c d h i a => opm (a.v 0 k1_0),
  fun f s W b c d h i a => opv rfl rfl (by simp [go_sem, a.e 3 (c 0 rfl)]) rfl, trivial⟩ ?_
 intro f2 s2 W2 hB2 g2 hg2 z2
 have k2_0 := kt hg2 0 k1_0
 have k2_4 := kt hg2 4 (hB2.is 1)
 have hc4 : (fr 12 g2).eval (.tmp 4) = .bool false := ((fr_eval rfl).trans k2_4).trans (by rw [hn])
 refine wp_cond_false (hc4) ?_
 refine wp_skip ?_
 refine hK2 _ _ ?_
 refine rw_ 4 [(9, 0), (10, 1), (11, 2), (2, 3)] [[], [0], [1], [2]] (rel [iI n, iI (n + 999), iI ((n + 999) / 1000), iI ((n + 999) / 1000)])
  ⟨fun f s W b c d h i a => opm (a.v 0 k2_0),
  fun f s W b c d h i a => opv rfl rfl (by simp [go_sem, a.e 9 (c 0 rfl), IntWalk.i64_in (n + 999) (by omega)]) rfl,
  fun f s W b c d h i a => by have qu_ : (n + 999).tdiv 1000 = (n + 999) / 1000 := Int.tdiv_eq_ediv_of_nonneg (by omega); have qw_ := IntWalk.i64_in ((n + 999) / 1000) (by omega); exact opv rfl rfl (by simp [go_sem, a.e 10 (c 1 rfl), qu_, qw_]) rfl,
  fun f s W b c d h i a => opm (a.v 11 (c 2 rfl)), trivial⟩ ?_
 intro f3 s3 W3 hB3 g3 hg3 z3
 have fB3 := hB3.f (hB2.f (hB1.f fB0))
 have k3_2 := kt hg3 2 (hB3.is 3)
 refine wp_ret ?_
 refine leave_one (N := 12) (.inr rfl) Tryz.results105 rfl k3_2 ?_
 exact ⟨rfl, fB3⟩
theorem down_neg (n : Int) (w : World) (h0 : n < 0) (ja : -1000000000 ≤ n) :
  Calls Tryz.prog 104 #[.int .i64 n] w (fun e w' => e = .returned (.int .i64 (dn n)) ∧ Below w.heap.size w w') := by
 have hn : decide (n < 0) = true := decide_eq_true h0
 have hu : 0 ≤ upw (-n) ∧ upw (-n) ≤ 1000001 := by unfold upw; omega
 refine calls_fr Tryz.func104 Tryz.ntmps104 rfl rfl fun g hg => ?_
 have k0 : g 0 = .int .i64 n := hg 0
 clear hg
 have fB0 : Below w.heap.size w w := Below.refl _ _
 refine rw_ 1 [(2, 0)] [[]] (rel [iI 0])
  ⟨fun f s W b c d h i a => opz, trivial⟩ ?_
 intro f1 s1 W1 hB1 g1 hg1 z1
 have k1_0 := kt hg1 0 k0
 refine wp_seq_k fun K2 hK2 => ?_
 refine rw_ 2 [(3, 0), (4, 1)] [[], [0]] (rel [iI n, iB (decide (n < 0))])
  ⟨fun f s W b c d h i a => opm (a.v 0 k1_0),
  fun f s W b c d h i a => opv rfl rfl (by simp [go_sem, a.e 3 (c 0 rfl)]) rfl, trivial⟩ ?_
 intro f2 s2 W2 hB2 g2 hg2 z2
 have k2_0 := kt hg2 0 k1_0
 have k2_4 := kt hg2 4 (hB2.is 1)
 have hc4 : (fr 11 g2).eval (.tmp 4) = .bool true := ((fr_eval rfl).trans k2_4).trans (by rw [hn])
 refine wp_cond_true (hc4) ?_
 refine rw_ 5 [(5, 0), (6, 1), (7, 2), (8, 3), (2, 4)] [[], [0], [1], [2], [3]] (rel [iI n, iI (-n), iI (upw (-n)), iI (-(upw (-n))), iI (-(upw (-n)))])
  ⟨fun f s W b c d h i a => opm (a.v 0 k2_0),
  fun f s W b c d h i a => opv rfl rfl (by simp [go_sem, a.e 5 (c 0 rfl), IntWalk.i64_in (-n) (by omega)]) rfl,
  fun f s W b c d h i a => opc rfl rfl (by simp [go_sem, a.e 6 (c 1 rfl)]) (up_pos (-n) W (by omega) (by omega)),
  fun f s W b c d h i a => opv rfl rfl (by simp [go_sem, a.e 7 (c 2 rfl), IntWalk.i64_in (-(upw (-n))) (by omega)]) rfl,
  fun f s W b c d h i a => opm (a.v 8 (c 3 rfl)), trivial⟩ ?_
 intro f3 s3 W3 hB3 g3 hg3 z3
 have fB3 := hB3.f (hB2.f (hB1.f fB0))
 have k3_2 := kt hg3 2 (hB3.is 4)
 refine wp_ret ?_
 refine then_ret ?_
 refine leave_one (N := 11) (.inr rfl) Tryz.results104 rfl k3_2 ?_
 exact ⟨congrArg (fun x => Ending.returned (.int .i64 x)) (by unfold dn upw; omega), fB3⟩
theorem up_neg (n : Int) (w : World) (h0 : n < 0) (ja : -1000000000 ≤ n) :
  Calls Tryz.prog 105 #[.int .i64 n] w (fun e w' => e = .returned (.int .i64 (upw n)) ∧ Below w.heap.size w w') := by
 have hn : decide (n < 0) = true := decide_eq_true h0
 have hu : 0 ≤ dn (-n) ∧ dn (-n) ≤ 1000001 := by unfold dn; omega
 refine calls_fr Tryz.func105 Tryz.ntmps105 rfl rfl fun g hg => ?_
 have k0 : g 0 = .int .i64 n := hg 0
 clear hg
 have fB0 : Below w.heap.size w w := Below.refl _ _
 refine rw_ 1 [(2, 0)] [[]] (rel [iI 0])
  ⟨fun f s W b c d h i a => opz, trivial⟩ ?_
 intro f1 s1 W1 hB1 g1 hg1 z1
 have k1_0 := kt hg1 0 k0
 refine wp_seq_k fun K2 hK2 => ?_
 refine rw_ 2 [(3, 0), (4, 1)] [[], [0]] (rel [iI n, iB (decide (n < 0))])
  ⟨fun f s W b c d h i a => opm (a.v 0 k1_0),
  fun f s W b c d h i a => opv rfl rfl (by simp [go_sem, a.e 3 (c 0 rfl)]) rfl, trivial⟩ ?_
 intro f2 s2 W2 hB2 g2 hg2 z2
 have k2_0 := kt hg2 0 k1_0
 have k2_4 := kt hg2 4 (hB2.is 1)
 have hc4 : (fr 12 g2).eval (.tmp 4) = .bool true := ((fr_eval rfl).trans k2_4).trans (by rw [hn])
 refine wp_cond_true (hc4) ?_
 refine rw_ 5 [(5, 0), (6, 1), (7, 2), (8, 3), (2, 4)] [[], [0], [1], [2], [3]] (rel [iI n, iI (-n), iI (dn (-n)), iI (-(dn (-n))), iI (-(dn (-n)))])
  ⟨fun f s W b c d h i a => opm (a.v 0 k2_0),
  fun f s W b c d h i a => opv rfl rfl (by simp [go_sem, a.e 5 (c 0 rfl), IntWalk.i64_in (-n) (by omega)]) rfl,
  fun f s W b c d h i a => opc rfl rfl (by simp [go_sem, a.e 6 (c 1 rfl)]) (down_pos (-n) W (by omega) (by omega)),
  fun f s W b c d h i a => opv rfl rfl (by simp [go_sem, a.e 7 (c 2 rfl), IntWalk.i64_in (-(dn (-n))) (by omega)]) rfl,
  fun f s W b c d h i a => opm (a.v 8 (c 3 rfl)), trivial⟩ ?_
 intro f3 s3 W3 hB3 g3 hg3 z3
 have fB3 := hB3.f (hB2.f (hB1.f fB0))
 have k3_2 := kt hg3 2 (hB3.is 4)
 refine wp_ret ?_
 refine then_ret ?_
 refine leave_one (N := 12) (.inr rfl) Tryz.results105 rfl k3_2 ?_
 exact ⟨congrArg (fun x => Ending.returned (.int .i64 x)) (by unfold dn upw; omega), fB3⟩
theorem dn_any (n : Int) (w : World) (ja : -1000000000 ≤ n) (jb : n ≤ 1000000000) : Calls Tryz.prog 104 #[.int .i64 n] w (fun e w' => e = .returned (.int .i64 (dn n)) ∧ Below w.heap.size w w') := by
  by_cases h : n < 0
  · exact down_neg n w h ja
  · exact down_pos n w (by omega) jb
theorem upw_any (n : Int) (w : World) (ja : -1000000000 ≤ n) (jb : n ≤ 1000000000) : Calls Tryz.prog 105 #[.int .i64 n] w (fun e w' => e = .returned (.int .i64 (upw n)) ∧ Below w.heap.size w w') := by
  by_cases h : n < 0
  · exact up_neg n w h ja
  · exact up_pos n w (by omega) jb
def aroundS (lo hi wd : Int) : Sp := (dn lo - wd, upw hi + wd)
def limS (s : Sp) (least most : Int) : Sp := (max least (min most s.1), max least (min most s.2))
theorem aroundS_any (lo hi wd : Int) (w : World) (ja : -1000000000 ≤ lo) (jb : lo ≤ 1000000000) (jc : -1000000000 ≤ hi) (jd : hi ≤ 1000000000) (je : 0 ≤ wd) (jf : wd ≤ 100) :
  Calls Tryz.prog 74 #[.int .i64 lo, .int .i64 hi, .int .i64 wd] w (fun e w' => e = .returned (.agg #[.int .i64 (aroundS lo hi wd).1, .int .i64 (aroundS lo hi wd).2]) ∧ Below w.heap.size w w') := by
 have hd : -1000001 ≤ dn lo ∧ dn lo ≤ 1000001 := by unfold dn; omega
 have hu : -1000001 ≤ upw hi ∧ upw hi ≤ 1000001 := by unfold upw; omega
 refine calls_fr Tryz.func74 Tryz.ntmps74 rfl rfl fun g hg => ?_
 have k0 : g 0 = .int .i64 lo := hg 0
 have k1 : g 1 = .int .i64 hi := hg 1
 have k2 : g 2 = .int .i64 wd := hg 2
 clear hg
 have fB0 : Below w.heap.size w w := Below.refl _ _
 refine rw_ 1 [(6, 0)] [[]] (rel [bx 0 #[.int .i64 0, .int .i64 0] 26])
  ⟨fun f s W c hd d h i a => opb rfl rfl (by simp [go_sem]), trivial⟩ ?_
 intro f1 s1 W1 hB1 g1 hg1 z1
 obtain ⟨r1_0, br1_0⟩ := hB1.is 0
 have lr1_0 := hB1.lr 0 br1_0
 have k1_0 := kt hg1 0 k0
 have k1_1 := kt hg1 1 k1
 have k1_2 := kt hg1 2 k2
 refine wp_seq_k fun K2 hK2 => ?_
 refine ry 9 [(7, 0), (8, 1), (9, 2), (10, 3), (11, 4), (12, 5), (13, 6), (14, 7), (15, 8)] [[], [0], [], [1, 2], [], [4], [], [5, 6], [3, 7], [0, 1, 2, 3, 4, 5, 6, 7, 8]] (rel [iI lo, iI (dn lo), iI wd, iI ((dn lo) - wd), iI hi, iI (upw hi), iI wd, iI ((upw hi) + wd), is (.agg #[.int .i64 ((dn lo) - wd), .int .i64 ((upw hi) + wd)])])
  ⟨fun f s W c hd d h i a => opm (a.v 0 k1_0),
  fun f s W c hd d h i a => opc rfl rfl (by simp [go_sem, a.e 7 (hd 0 rfl)]) (dn_any lo W ja jb),
  fun f s W c hd d h i a => opm (a.v 2 k1_2),
  fun f s W c hd d h i a => opv rfl rfl (by simp [go_sem, a.e 8 (hd 1 rfl), a.e 9 (hd 2 rfl), IntWalk.i64_in ((dn lo) - wd) (by omega)]) rfl,
  fun f s W c hd d h i a => opm (a.v 1 k1_1),
  fun f s W c hd d h i a => opc rfl rfl (by simp [go_sem, a.e 11 (hd 4 rfl)]) (upw_any hi W jc jd),
  fun f s W c hd d h i a => opm (a.v 2 k1_2),
  fun f s W c hd d h i a => opv rfl rfl (by simp [go_sem, a.e 12 (hd 5 rfl), a.e 13 (hd 6 rfl), IntWalk.i64_in ((upw hi) + wd) (by omega)]) rfl,
  fun f s W c hd d h i a => opc rfl rfl (by simp [go_sem, a.e 10 (hd 3 rfl), a.e 14 (hd 7 rfl)]) (span_any ((dn lo) - wd) ((upw hi) + wd) W), trivial⟩ ?_
 intro f2 s2 W2 hB2 g2 hg2 z2
 have fB2 := hB2.f (hB1.f fB0)
 have b2_0 := hB2.b br1_0
 have k2_6 := kt hg2 6 (kt hg1 6 r1_0)
 have k2_15 := kt hg2 15 (hB2.is 8)
 obtain ⟨W3, hW3⟩ : ∃ W', W' = W2.setRow (s1 0) #[.int .i64 ((dn lo) - wd), .int .i64 ((upw hi) + wd)] := ⟨_, rfl⟩
 refine tsk (o := _) rfl ⟨rfl, rfl⟩ (run_seg hW3 (fr_ev k2_6) (fr_ev k2_15) b2_0 rfl rfl rfl rfl) ?_
 obtain ⟨fB3, nb3, ot3, z3⟩ := sgf hW3 fB2 b2_0 (by omega)
 clear hW3
 refine wpe ?_
 refine hK2 _ _ ?_
 refine wp_ret ?_
 refine leave_gen (v := .agg #[.int .i64 ((dn lo) - wd), .int .i64 ((upw hi) + wd)]) (.inr rfl) (by simp [results, Tryz.results74, go_sem, frv 16 k2_6, cl nb3 0, cl nb3 1]) ?_
 exact ⟨rfl, fB3⟩
theorem limS_any (lo hi least most : Int) (w : World) :
  Calls Tryz.prog 73 #[.agg #[.int .i64 lo, .int .i64 hi], .int .i64 least, .int .i64 most] w (fun e w' => e = .returned (.agg #[.int .i64 (limS (lo, hi) least most).1, .int .i64 (limS (lo, hi) least most).2]) ∧ Below w.heap.size w w') := by
 refine calls_fr Tryz.func73 Tryz.ntmps73 rfl rfl fun g hg => ?_
 have k0 : g 0 = .agg #[.int .i64 lo, .int .i64 hi] := hg 0
 have k1 : g 1 = .int .i64 least := hg 1
 have k2 : g 2 = .int .i64 most := hg 2
 clear hg
 have fB0 : Below w.heap.size w w := Below.refl _ _
 refine rw_ 2 [(3, 0), (6, 1)] [[], []] (rel [bx 0 #[.int .i64 lo, .int .i64 hi] 26, bx 1 #[.int .i64 0, .int .i64 0] 26])
  ⟨fun f s W c d h i j a => opb rfl rfl (by simp [go_sem, a.e 0 k0]),
  fun f s W c d h i j a => opb rfl rfl (by simp [go_sem]), trivial⟩ ?_
 intro f1 s1 W1 hB1 g1 hg1 z1
 obtain ⟨r1_0, br1_0⟩ := hB1.is 0
 have lr1_0 := hB1.lr 0 br1_0
 obtain ⟨r1_1, br1_1⟩ := hB1.is 1
 have lr1_1 := hB1.lr 1 br1_1
 have ne1_0_1 := hB1.nb 0 1
 have k1_1 := kt hg1 1 k1
 have k1_2 := kt hg1 2 k2
 have k1_3 := kt hg1 3 r1_0
 refine wp_seq_k fun K2 hK2 => ?_
 refine ry 13 [(7, 0), (8, 1), (9, 2), (10, 3), (11, 4), (12, 5), (13, 6), (14, 7), (15, 8), (16, 9), (17, 10), (18, 11), (19, 12)] [[], [], [], [2], [1, 3], [0, 4], [], [], [], [8], [7, 9], [6, 10], [5, 11], [0, 1, 2, 3, 4, 5, 6, 7, 8, 9, 10, 11, 12]] (rel [iI least, iI most, is (.pointer (some ⟨(s1 0), 0, none⟩)), iI lo, iI (min most lo), iI (max least (min most lo)), iI least, iI most, is (.pointer (some ⟨(s1 0), 1, none⟩)), iI hi, iI (min most hi), iI (max least (min most hi)), is (.agg #[.int .i64 (max least (min most lo)), .int .i64 (max least (min most hi))])])
  ⟨fun f s W c d h i j a => opm (a.v 1 k1_1),
  fun f s W c d h i j a => opm (a.v 2 k1_2),
  fun f s W c d h i j a => opv rfl rfl (by simp [go_sem, a.e 3 k1_3]) rfl,
  fun f s W c d h i j a => opv rfl rfl (by simp [go_sem, a.e 9 (d 2 rfl), cb br1_0 c 0]) rfl,
  fun f s W c d h i j a => opv rfl rfl (by simp [go_sem, a.e 8 (d 1 rfl), a.e 10 (d 3 rfl)]) rfl,
  fun f s W c d h i j a => opv rfl rfl (by simp [go_sem, a.e 7 (d 0 rfl), a.e 11 (d 4 rfl)]) rfl,
  fun f s W c d h i j a => opm (a.v 1 k1_1),
  fun f s W c d h i j a => opm (a.v 2 k1_2),
  fun f s W c d h i j a => opv rfl rfl (by simp [go_sem, a.e 3 k1_3]) rfl,
  fun f s W c d h i j a => opv rfl rfl (by simp [go_sem, a.e 15 (d 8 rfl), cb br1_0 c 1]) rfl,
  fun f s W c d h i j a => opv rfl rfl (by simp [go_sem, a.e 14 (d 7 rfl), a.e 16 (d 9 rfl)]) rfl,
  fun f s W c d h i j a => opv rfl rfl (by simp [go_sem, a.e 13 (d 6 rfl), a.e 17 (d 10 rfl)]) rfl,
  fun f s W c d h i j a => opc rfl rfl (by simp [go_sem, a.e 12 (d 5 rfl), a.e 18 (d 11 rfl)]) (span_any (max least (min most lo)) (max least (min most hi)) W), trivial⟩ ?_
 intro f2 s2 W2 hB2 g2 hg2 z2
 have fB2 := hB2.f (hB1.f fB0)
 have b2_1 := hB2.b br1_1
 have k2_6 := kt hg2 6 (kt hg1 6 r1_1)
 have k2_19 := kt hg2 19 (hB2.is 12)
 obtain ⟨W3, hW3⟩ : ∃ W', W' = W2.setRow (s1 1) #[.int .i64 (max least (min most lo)), .int .i64 (max least (min most hi))] := ⟨_, rfl⟩
 refine tsk (o := _) rfl ⟨rfl, rfl⟩ (run_seg hW3 (fr_ev k2_6) (fr_ev k2_19) b2_1 rfl rfl rfl rfl) ?_
 obtain ⟨fB3, nb3, ot3, z3⟩ := sgf hW3 fB2 b2_1 (by omega)
 clear hW3
 refine wpe ?_
 refine hK2 _ _ ?_
 refine wp_ret ?_
 refine leave_gen (v := .agg #[.int .i64 (max least (min most lo)), .int .i64 (max least (min most hi))]) (.inr rfl) (by simp [results, Tryz.results73, go_sem, frv 20 k2_6, cl nb3 0, cl nb3 1]) ?_
 exact ⟨rfl, fB3⟩
def shCal (x : Sh) : Sp := (1500 + 20 * x.ca, 1500 + 20 * x.ca + 2 * x.cb)
theorem shCal_any (x0 x1 x2 x3 xh y0 y1 y2 y3 : Int) (xo : Bool) (ca cb v0 v1 v2 v3 v4 : Int) (w : World) (gx0 : 0 ≤ x0 ∧ x0 ≤ 255) (gx1 : 0 ≤ x1 ∧ x1 ≤ 255) (gx2 : 0 ≤ x2 ∧ x2 ≤ 255) (gx3 : 0 ≤ x3 ∧ x3 ≤ 255) (gxh : 0 ≤ xh ∧ xh ≤ 255) (gy0 : 0 ≤ y0 ∧ y0 ≤ 255) (gy1 : 0 ≤ y1 ∧ y1 ≤ 255) (gy2 : 0 ≤ y2 ∧ y2 ≤ 255) (gy3 : 0 ≤ y3 ∧ y3 ≤ 255) (gca : 0 ≤ ca ∧ ca ≤ 255) (gcb : 0 ≤ cb ∧ cb ≤ 255) (gv0 : 0 ≤ v0 ∧ v0 ≤ 255) (gv1 : 0 ≤ v1 ∧ v1 ≤ 255) (gv2 : 0 ≤ v2 ∧ v2 ≤ 255) (gv3 : 0 ≤ v3 ∧ v3 ≤ 255) (gv4 : 0 ≤ v4 ∧ v4 ≤ 255) :
  Calls Tryz.prog 35 #[.agg #[.int .u8 x0, .int .u8 x1, .int .u8 x2, .int .u8 x3, .int .u8 xh, .int .u8 y0, .int .u8 y1, .int .u8 y2, .int .u8 y3, .bool xo, .int .u8 ca, .int .u8 cb, .int .u8 v0, .int .u8 v1, .int .u8 v2, .int .u8 v3, .int .u8 v4]] w (fun e w' => e = .returned (.agg #[.int .i64 (shCal ⟨x0, x1, x2, x3, xh, y0, y1, y2, y3, xo, ca, cb, v0, v1, v2, v3, v4⟩).1, .int .i64 (shCal ⟨x0, x1, x2, x3, xh, y0, y1, y2, y3, xo, ca, cb, v0, v1, v2, v3, v4⟩).2]) ∧ Below w.heap.size w w') := by
 refine calls_fr Tryz.func35 Tryz.ntmps35 rfl rfl fun g hg => ?_
 have k0 : g 0 = .agg #[.int .u8 x0, .int .u8 x1, .int .u8 x2, .int .u8 x3, .int .u8 xh, .int .u8 y0, .int .u8 y1, .int .u8 y2, .int .u8 y3, .bool xo, .int .u8 ca, .int .u8 cb, .int .u8 v0, .int .u8 v1, .int .u8 v2, .int .u8 v3, .int .u8 v4] := hg 0
 clear hg
 have fB0 : Below w.heap.size w w := Below.refl _ _
 refine rw_ 2 [(1, 0), (2, 1)] [[], []] (rel [bx 0 #[.int .u8 x0, .int .u8 x1, .int .u8 x2, .int .u8 x3, .int .u8 xh, .int .u8 y0, .int .u8 y1, .int .u8 y2, .int .u8 y3, .bool xo, .int .u8 ca, .int .u8 cb, .int .u8 v0, .int .u8 v1, .int .u8 v2, .int .u8 v3, .int .u8 v4] 72, bx 1 #[.int .i64 0, .int .i64 0] 26])
  ⟨fun f s W c d h i j a => opb rfl rfl (by simp [go_sem, a.e 0 k0]),
  fun f s W c d h i j a => opb rfl rfl (by simp [go_sem]), trivial⟩ ?_
 intro f1 s1 W1 hB1 g1 hg1 z1
 obtain ⟨r1_0, br1_0⟩ := hB1.is 0
 have lr1_0 := hB1.lr 0 br1_0
 obtain ⟨r1_1, br1_1⟩ := hB1.is 1
 have lr1_1 := hB1.lr 1 br1_1
 have ne1_0_1 := hB1.nb 0 1
 have k1_1 := kt hg1 1 r1_0
 refine rw_ 7 [(4, 0), (5, 1), (6, 2), (7, 3), (8, 4), (9, 5), (3, 6)] [[], [0], [1], [2], [3], [4], [5]] (rel [is (.pointer (some ⟨(s1 0), 10, none⟩)), is (.pointer (some ⟨(s1 0), 10, none⟩)), is (.int .u8 ca), iI ca, iI (20 * ca), iI (1500 + (20 * ca)), iI (1500 + (20 * ca))])
  ⟨fun f s W c d h i j a => opv rfl rfl (by simp [go_sem, a.e 1 k1_1]) rfl,
  fun f s W c d h i j a => opv rfl rfl (by simp [go_sem, a.e 4 (d 0 rfl)]) rfl,
  fun f s W c d h i j a => opv rfl rfl (by simp [go_sem, a.e 5 (d 1 rfl), cl (bwb br1_0 c) 10]) rfl,
  fun f s W c d h i j a => by have cv_ := IntWalk.i64_in ca (by omega); exact opv rfl rfl (by simp [go_sem, a.e 6 (d 2 rfl), cv_]) rfl,
  fun f s W c d h i j a => opv rfl rfl (by simp [go_sem, a.e 7 (d 3 rfl), IntWalk.i64_in (20 * ca) (by omega)]) rfl,
  fun f s W c d h i j a => opv rfl rfl (by simp [go_sem, a.e 8 (d 4 rfl), IntWalk.i64_in (1500 + (20 * ca)) (by omega)]) rfl,
  fun f s W c d h i j a => opm (a.v 9 (d 5 rfl)), trivial⟩ ?_
 intro f2 s2 W2 hB2 g2 hg2 z2
 have b2_0 := hB2.b br1_0
 have k2_1 := kt hg2 1 k1_1
 have k2_3 := kt hg2 3 (hB2.is 6)
 refine wp_seq_k fun K3 hK3 => ?_
 refine ry 9 [(10, 0), (11, 1), (12, 2), (13, 3), (14, 4), (15, 5), (16, 6), (17, 7), (18, 8)] [[], [], [], [2], [3], [4], [5], [1, 6], [0, 7], [0, 1, 2, 3, 4, 5, 6, 7, 8]] (rel [iI (1500 + (20 * ca)), iI (1500 + (20 * ca)), is (.pointer (some ⟨(s1 0), 10, none⟩)), is (.pointer (some ⟨(s1 0), 11, none⟩)), is (.int .u8 cb), iI cb, iI (2 * cb), iI ((1500 + (20 * ca)) + (2 * cb)), is (.agg #[.int .i64 (1500 + (20 * ca)), .int .i64 ((1500 + (20 * ca)) + (2 * cb))])])
  ⟨fun f s W c d h i j a => opm (a.v 3 k2_3),
  fun f s W c d h i j a => opm (a.v 3 k2_3),
  fun f s W c d h i j a => opv rfl rfl (by simp [go_sem, a.e 1 k2_1]) rfl,
  fun f s W c d h i j a => opv rfl rfl (by simp [go_sem, a.e 12 (d 2 rfl)]) rfl,
  fun f s W c d h i j a => opv rfl rfl (by simp [go_sem, a.e 13 (d 3 rfl), cl (bwb b2_0 c) 11]) rfl,
  fun f s W c d h i j a => by have cv_ := IntWalk.i64_in cb (by omega); exact opv rfl rfl (by simp [go_sem, a.e 14 (d 4 rfl), cv_]) rfl,
  fun f s W c d h i j a => opv rfl rfl (by simp [go_sem, a.e 15 (d 5 rfl), IntWalk.i64_in (2 * cb) (by omega)]) rfl,
  fun f s W c d h i j a => opv rfl rfl (by simp [go_sem, a.e 11 (d 1 rfl), a.e 16 (d 6 rfl), IntWalk.i64_in ((1500 + (20 * ca)) + (2 * cb)) (by omega)]) rfl,
  fun f s W c d h i j a => opc rfl rfl (by simp [go_sem, a.e 10 (d 0 rfl), a.e 17 (d 7 rfl)]) (span_any (1500 + (20 * ca)) ((1500 + (20 * ca)) + (2 * cb)) W), trivial⟩ ?_
 intro f3 s3 W3 hB3 g3 hg3 z3
 have fB3 := hB3.f (hB2.f (hB1.f fB0))
 have b3_1 := hB3.b (hB2.b br1_1)
 have k3_2 := kt hg3 2 (kt hg2 2 (kt hg1 2 r1_1))
 have k3_18 := kt hg3 18 (hB3.is 8)
 obtain ⟨W4, hW4⟩ : ∃ W', W' = W3.setRow (s1 1) #[.int .i64 (1500 + (20 * ca)), .int .i64 ((1500 + (20 * ca)) + (2 * cb))] := ⟨_, rfl⟩
 refine tsk (o := _) rfl ⟨rfl, rfl⟩ (run_seg hW4 (fr_ev k3_2) (fr_ev k3_18) b3_1 rfl rfl rfl rfl) ?_
 obtain ⟨fB4, nb4, ot4, z4⟩ := sgf hW4 fB3 b3_1 (by omega)
 clear hW4
 refine wpe ?_
 refine hK3 _ _ ?_
 refine wp_ret ?_
 refine leave_gen (v := .agg #[.int .i64 (1500 + (20 * ca)), .int .i64 ((1500 + (20 * ca)) + (2 * cb))]) (.inr rfl) (by simp [results, Tryz.results35, go_sem, frv 19 k3_2, cl nb4 0, cl nb4 1]) ?_
 exact ⟨rfl, fB4⟩
def microsOf (b : Bl) (c : Int) : List Int :=
  let p := fun k => 1000 * b.panels.getD k 0 - c
  [p 0, p 1, p 2, p 3, if b.isOpen = true then 1000 * b.height - 2 * c + c else 1000 * b.height - 2 * c, p 1 - 2000 * b.top.getD 0 0, p 0 - 2000 * b.top.getD 1 0, p 1 - 2000 * b.bottom.getD 0 0, p 0 - 2000 * b.bottom.getD 1 0]
theorem micros_any (a1 a2 a3 : Option Addr) (c1 c2 c3 : Nat) (tab p0 p1 p2 p3 hh t0 t1 u0 u1 sl : Int) (op : Bool) (cal : Int) (w : World) (h1 : Ii w a1 4 c1 [p0, p1, p2, p3]) (h2 : Ii w a2 2 c2 [t0, t1]) (h3 : Ii w a3 2 c3 [u0, u1]) (gp0 : 0 ≤ p0 ∧ p0 ≤ 4000) (gp1 : 0 ≤ p1 ∧ p1 ≤ 4000) (gp2 : 0 ≤ p2 ∧ p2 ≤ 4000) (gp3 : 0 ≤ p3 ∧ p3 ≤ 4000) (ghh : 0 ≤ hh ∧ hh ≤ 4000) (gt0 : 0 ≤ t0 ∧ t0 ≤ 4000) (gt1 : 0 ≤ t1 ∧ t1 ≤ 4000) (gu0 : 0 ≤ u0 ∧ u0 ≤ 4000) (gu1 : 0 ≤ u1 ∧ u1 ≤ 4000) (gcl : 0 ≤ cal ∧ cal ≤ 100000) :
  Calls Tryz.prog 37 #[.agg #[.int .i64 tab, .slice a1 4 c1, .int .i64 hh, .slice a2 2 c2, .slice a3 2 c3, .int .i64 sl, .bool op], .int .i64 cal] w (fun e w' => e = .returned (.agg ((microsOf ⟨tab, [p0, p1, p2, p3], hh, [t0, t1], [u0, u1], sl, op⟩ cal).map (Value.int .i64)).toArray) ∧ Below w.heap.size w w') := by
 obtain ⟨q1, o1, hq1, hql1, hqc1⟩ := h1.at (by simp)
 obtain ⟨q2, o2, hq2, hql2, hqc2⟩ := h2.at (by simp)
 obtain ⟨q3, o3, hq3, hql3, hqc3⟩ := h3.at (by simp)
 refine calls_fr Tryz.func37 Tryz.ntmps37 rfl rfl fun g hg => ?_
 have k0 : g 0 = .agg #[.int .i64 tab, .slice a1 4 c1, .int .i64 hh, .slice a2 2 c2, .slice a3 2 c3, .int .i64 sl, .bool op] := hg 0
 have k1 : g 1 = .int .i64 cal := hg 1
 clear hg
 have fB0 : Below w.heap.size w w := Below.refl _ _
 refine rw_ 2 [(2, 0), (4, 1)] [[], []] (rel [bx 0 #[.int .i64 tab, .slice a1 4 c1, .int .i64 hh, .slice a2 2 c2, .slice a3 2 c3, .int .i64 sl, .bool op] 24, bx 1 #[.int .i64 0, .int .i64 0, .int .i64 0, .int .i64 0, .int .i64 0, .int .i64 0, .int .i64 0, .int .i64 0, .int .i64 0] 76])
  ⟨fun f s W c d h i j a => opb rfl rfl (by simp [go_sem, a.e 0 k0]),
  fun f s W c d h i j a => opb rfl rfl (by simp [go_sem]), trivial⟩ ?_
 intro f1 s1 W1 hB1 g1 hg1 z1
 obtain ⟨r1_0, br1_0⟩ := hB1.is 0
 have lr1_0 := hB1.lr 0 br1_0
 obtain ⟨r1_1, br1_1⟩ := hB1.is 1
 have lr1_1 := hB1.lr 1 br1_1
 have ne1_0_1 := hB1.nb 0 1
 refine wp_seq_k fun K2 hK2 => ?_
 refine ry 2 [(9, 0), (5, 1)] [[], [], [0, 1]] (rel [is (.agg #[.int .i64 0, .int .i64 0, .int .i64 0, .int .i64 0, .int .i64 0, .int .i64 0, .int .i64 0, .int .i64 0, .int .i64 0]), bx 1 #[.int .i64 0, .int .i64 0, .int .i64 0, .int .i64 0, .int .i64 0, .int .i64 0, .int .i64 0, .int .i64 0, .int .i64 0] 76])
  ⟨fun f s W c d h i j a => opv rfl rfl (by simp [go_sem]) rfl,
  fun f s W c d h i j a => opb rfl rfl (by simp [go_sem]), trivial⟩ ?_
 intro f2 s2 W2 hB2 g2 hg2 z2
 have fB2 := hB2.f (hB1.f fB0)
 have b2_0 := hB2.b br1_0
 have b2_1 := hB2.b br1_1
 obtain ⟨r2_1, br2_1⟩ := hB2.is 1
 have lr2_1 := hB2.lr 1 br2_1
 have k2_9 := kt hg2 9 (hB2.is 0)
 have k2_5 := kt hg2 5 r2_1
 obtain ⟨W3, hW3⟩ : ∃ W', W' = W2.setRow (s2 1) #[.int .i64 0, .int .i64 0, .int .i64 0, .int .i64 0, .int .i64 0, .int .i64 0, .int .i64 0, .int .i64 0, .int .i64 0] := ⟨_, rfl⟩
 refine tsk (o := _) rfl ⟨rfl, rfl⟩ (run_seg hW3 (fr_ev k2_5) (fr_ev k2_9) br2_1 rfl rfl rfl rfl) ?_
 obtain ⟨fB3, nb3, ot3, z3⟩ := sgf hW3 fB2 br2_1 (by omega)
 clear hW3
 have b3_0 := ot3 _ _ (by omega) b2_0
 have b3_1 := ot3 _ _ (by omega) b2_1
 refine wpe ?_
 refine hK2 _ _ ?_
 refine wp_seq_k fun K3 hK3 => ?_
 refine rw_ 1 [(6, 0)] [[]] (rel [iI 0])
  ⟨fun f s W c d h i j a => opz, trivial⟩ ?_
 intro f4 s4 W4 hB4 g4 hg4 z4
 have k4_6 := kt hg4 6 (hB4.is 0)
 refine wp_block ?_
 refine wp_loop_rounds 5 ?_
 rw [rounds_succ]
 refine wp_seq_k fun K5 hK5 => ?_
 refine rw_ 2 [(10, 0), (11, 1)] [[], [0]] (rel [iI 0, iB true])
  ⟨fun f s W c d h i j a => opm (a.v 6 k4_6),
  fun f s W c d h i j a => opv rfl rfl (by simp [go_sem, a.e 10 (d 0 rfl)]) rfl, trivial⟩ ?_
 intro f5 s5 W5 hB5 g5 hg5 z5
 have fB5 := hB5.f (hB4.f fB3)
 have b5_0 := hB5.b (hB4.b b3_0)
 have k5_1 := kt hg5 1 (kt hg4 1 (kt hg2 1 (kt hg1 1 k1)))
 have k5_2 := kt hg5 2 (kt hg4 2 (kt hg2 2 (kt hg1 2 r1_0)))
 have k5_5 := kt hg5 5 (kt hg4 5 k2_5)
 have k5_6 := kt hg5 6 k4_6
 have k5_11 := kt hg5 11 (hB5.is 1)
 refine wp_cond_true ((fr_eval rfl).trans k5_11) ?_
 refine wp_skip ?_
 refine hK5 _ _ ?_
 refine wp_seq_k fun K8 hK8 => ?_
 refine wp_block ?_
 refine ry 10 [(14, 0), (15, 1), (16, 2), (17, 3), (18, 4), (19, 5), (20, 6), (21, 7), (22, 8), (23, 9)] [[], [], [1], [], [2, 3], [4], [5], [], [6, 7], [0], [0, 1, 2, 3, 4, 5, 6, 7, 8, 9]] (rel [iI 0, is (.pointer (some ⟨(s1 0), 1, none⟩)), is (.slice a1 4 c1), iI 0, is (.pointer (some ⟨q1, o1, none⟩)), iI p0, iI (1000 * p0), iI cal, iI ((1000 * p0) - cal), is (.pointer (some ⟨(s2 1), 0, none⟩))])
  ⟨fun f s W c d h i j a => opm (a.v 6 k5_6),
  fun f s W c d h i j a => opv rfl rfl (by simp [go_sem, a.e 2 k5_2]) rfl,
  fun f s W c d h i j a => opv rfl rfl (by simp [go_sem, a.e 15 (d 1 rfl), cb b5_0 c 1]) rfl,
  fun f s W c d h i j a => opm (a.v 6 k5_6),
  fun f s W c d h i j a => opv rfl rfl (by simp [go_sem, a.e 16 (d 2 rfl), a.e 17 (d 3 rfl), hq1]) rfl,
  fun f s W c d h i j a => by have k := bwt fB5 c; have u_ : W.cell? ⟨q1, o1, none⟩ = some (.int .i64 (p0)) := (k.cell (p := ⟨q1, o1, none⟩) hql1).trans (hqc1 0 (by simp)); exact opv rfl rfl (by simp [go_sem, a.e 18 (d 4 rfl), u_]) rfl,
  fun f s W c d h i j a => opv rfl rfl (by simp [go_sem, a.e 19 (d 5 rfl), IntWalk.i64_in (1000 * p0) (by omega)]) rfl,
  fun f s W c d h i j a => opm (a.v 1 k5_1),
  fun f s W c d h i j a => opv rfl rfl (by simp [go_sem, a.e 20 (d 6 rfl), a.e 21 (d 7 rfl), IntWalk.i64_in ((1000 * p0) - cal) (by omega)]) rfl,
  fun f s W c d h i j a => opv rfl rfl (by simp [go_sem, a.e 5 k5_5, a.e 14 (d 0 rfl)]) rfl, trivial⟩ ?_
 intro f6 s6 W6 hB6 g6 hg6 z6
 have fB6 := hB6.f fB5
 have b6_0 := hB6.b b5_0
 have b6_1 := hB6.b (hB5.b (hB4.b b3_1))
 have b6_2 := hB6.b (hB5.b (hB4.b nb3))
 have k6_6 := kt hg6 6 k5_6
 have k6_22 := kt hg6 22 (hB6.is 8)
 have k6_23 := kt hg6 23 (hB6.is 9)
 obtain ⟨W7, hW7⟩ : ∃ W', W' = W6.setRow (s2 1) #[.int .i64 ((1000 * p0) - cal), .int .i64 0, .int .i64 0, .int .i64 0, .int .i64 0, .int .i64 0, .int .i64 0, .int .i64 0, .int .i64 0] := ⟨_, rfl⟩
 refine tsk (o := _) rfl ⟨rfl, rfl⟩ (run_seg hW7 (fr_ev k6_23) (fr_ev k6_22) b6_2 rfl rfl rfl rfl) ?_
 obtain ⟨fB7, nb7, ot7, z7⟩ := sgf hW7 fB6 b6_2 (by omega)
 clear hW7
 have b7_0 := ot7 _ _ (by omega) b6_0
 have b7_1 := ot7 _ _ (by omega) b6_1
 refine wpe ?_
 refine ibn ?_
 refine hK8 _ _ ?_
 refine ry 3 [(12, 0), (13, 1), (6, 2)] [[], [0], [0, 1]] (rel [iI 0, iI 1, iI 1])
  ⟨fun f s W c d h i j a => opm (a.v 6 ((i 2 6 rfl rfl).trans k6_6)),
  fun f s W c d h i j a => opv rfl rfl (by simp [go_sem, a.e 12 (d 0 rfl), IntWalk.i64_in (1) (by omega)]) rfl,
  fun f s W c d h i j a => opm (a.v 13 (d 1 rfl)), trivial⟩ ?_
 intro f8 s8 W8 hB8 g8 hg8 z8
 refine wpe ?_
 have k8_6 := kt hg8 6 (hB8.is 2)
 refine then_normal ?_
 rw [rounds_succ]
 refine wp_seq_k fun K9 hK9 => ?_
 refine rw_ 2 [(10, 0), (11, 1)] [[], [0]] (rel [iI 1, iB true])
  ⟨fun f s W c d h i j a => opm (a.v 6 k8_6),
  fun f s W c d h i j a => opv rfl rfl (by simp [go_sem, a.e 10 (d 0 rfl)]) rfl, trivial⟩ ?_
 intro f9 s9 W9 hB9 g9 hg9 z9
 have fB9 := hB9.f (hB8.f fB7)
 have b9_0 := hB9.b (hB8.b b7_0)
 have k9_1 := kt hg9 1 (kt hg8 1 (kt hg6 1 k5_1))
 have k9_2 := kt hg9 2 (kt hg8 2 (kt hg6 2 k5_2))
 have k9_5 := kt hg9 5 (kt hg8 5 (kt hg6 5 k5_5))
 have k9_6 := kt hg9 6 k8_6
 have k9_11 := kt hg9 11 (hB9.is 1)
 refine wp_cond_true ((fr_eval rfl).trans k9_11) ?_
 refine wp_skip ?_
 refine hK9 _ _ ?_
 refine wp_seq_k fun K12 hK12 => ?_
 refine wp_block ?_
 refine ry 10 [(14, 0), (15, 1), (16, 2), (17, 3), (18, 4), (19, 5), (20, 6), (21, 7), (22, 8), (23, 9)] [[], [], [1], [], [2, 3], [4], [5], [], [6, 7], [0], [0, 1, 2, 3, 4, 5, 6, 7, 8, 9]] (rel [iI 1, is (.pointer (some ⟨(s1 0), 1, none⟩)), is (.slice a1 4 c1), iI 1, is (.pointer (some ⟨q1, o1 + 1, none⟩)), iI p1, iI (1000 * p1), iI cal, iI ((1000 * p1) - cal), is (.pointer (some ⟨(s2 1), 1, none⟩))])
  ⟨fun f s W c d h i j a => opm (a.v 6 k9_6),
  fun f s W c d h i j a => opv rfl rfl (by simp [go_sem, a.e 2 k9_2]) rfl,
  fun f s W c d h i j a => opv rfl rfl (by simp [go_sem, a.e 15 (d 1 rfl), cb b9_0 c 1]) rfl,
  fun f s W c d h i j a => opm (a.v 6 k9_6),
  fun f s W c d h i j a => opv rfl rfl (by simp [go_sem, a.e 16 (d 2 rfl), a.e 17 (d 3 rfl), hq1]) rfl,
  fun f s W c d h i j a => by have k := bwt fB9 c; have u_ : W.cell? ⟨q1, o1 + 1, none⟩ = some (.int .i64 (p1)) := (k.cell (p := ⟨q1, o1 + 1, none⟩) hql1).trans (hqc1 1 (by simp)); exact opv rfl rfl (by simp [go_sem, a.e 18 (d 4 rfl), u_]) rfl,
  fun f s W c d h i j a => opv rfl rfl (by simp [go_sem, a.e 19 (d 5 rfl), IntWalk.i64_in (1000 * p1) (by omega)]) rfl,
  fun f s W c d h i j a => opm (a.v 1 k9_1),
  fun f s W c d h i j a => opv rfl rfl (by simp [go_sem, a.e 20 (d 6 rfl), a.e 21 (d 7 rfl), IntWalk.i64_in ((1000 * p1) - cal) (by omega)]) rfl,
  fun f s W c d h i j a => opv rfl rfl (by simp [go_sem, a.e 5 k9_5, a.e 14 (d 0 rfl)]) rfl, trivial⟩ ?_
 intro f10 s10 W10 hB10 g10 hg10 z10
 have fB10 := hB10.f fB9
 have b10_0 := hB10.b b9_0
 have b10_1 := hB10.b (hB9.b (hB8.b b7_1))
 have b10_2 := hB10.b (hB9.b (hB8.b nb7))
 have k10_6 := kt hg10 6 k9_6
 have k10_22 := kt hg10 22 (hB10.is 8)
 have k10_23 := kt hg10 23 (hB10.is 9)
 obtain ⟨W11, hW11⟩ : ∃ W', W' = W10.setRow (s2 1) #[.int .i64 ((1000 * p0) - cal), .int .i64 ((1000 * p1) - cal), .int .i64 0, .int .i64 0, .int .i64 0, .int .i64 0, .int .i64 0, .int .i64 0, .int .i64 0] := ⟨_, rfl⟩
 refine tsk (o := _) rfl ⟨rfl, rfl⟩ (run_seg hW11 (fr_ev k10_23) (fr_ev k10_22) b10_2 rfl rfl rfl rfl) ?_
 obtain ⟨fB11, nb11, ot11, z11⟩ := sgf hW11 fB10 b10_2 (by omega)
 clear hW11
 have b11_0 := ot11 _ _ (by omega) b10_0
 have b11_1 := ot11 _ _ (by omega) b10_1
 refine wpe ?_
 refine ibn ?_
 refine hK12 _ _ ?_
 refine ry 3 [(12, 0), (13, 1), (6, 2)] [[], [0], [0, 1]] (rel [iI 1, iI 2, iI 2])
  ⟨fun f s W c d h i j a => opm (a.v 6 ((i 2 6 rfl rfl).trans k10_6)),
  fun f s W c d h i j a => opv rfl rfl (by simp [go_sem, a.e 12 (d 0 rfl), IntWalk.i64_in (2) (by omega)]) rfl,
  fun f s W c d h i j a => opm (a.v 13 (d 1 rfl)), trivial⟩ ?_
 intro f12 s12 W12 hB12 g12 hg12 z12
 refine wpe ?_
 have k12_6 := kt hg12 6 (hB12.is 2)
 refine then_normal ?_
 rw [rounds_succ]
 refine wp_seq_k fun K13 hK13 => ?_
 refine rw_ 2 [(10, 0), (11, 1)] [[], [0]] (rel [iI 2, iB true])
  ⟨fun f s W c d h i j a => opm (a.v 6 k12_6),
  fun f s W c d h i j a => opv rfl rfl (by simp [go_sem, a.e 10 (d 0 rfl)]) rfl, trivial⟩ ?_
 intro f13 s13 W13 hB13 g13 hg13 z13
 have fB13 := hB13.f (hB12.f fB11)
 have b13_0 := hB13.b (hB12.b b11_0)
 have k13_1 := kt hg13 1 (kt hg12 1 (kt hg10 1 k9_1))
 have k13_2 := kt hg13 2 (kt hg12 2 (kt hg10 2 k9_2))
 have k13_5 := kt hg13 5 (kt hg12 5 (kt hg10 5 k9_5))
 have k13_6 := kt hg13 6 k12_6
 have k13_11 := kt hg13 11 (hB13.is 1)
 refine wp_cond_true ((fr_eval rfl).trans k13_11) ?_
 refine wp_skip ?_
 refine hK13 _ _ ?_
 refine wp_seq_k fun K16 hK16 => ?_
 refine wp_block ?_
 refine ry 10 [(14, 0), (15, 1), (16, 2), (17, 3), (18, 4), (19, 5), (20, 6), (21, 7), (22, 8), (23, 9)] [[], [], [1], [], [2, 3], [4], [5], [], [6, 7], [0], [0, 1, 2, 3, 4, 5, 6, 7, 8, 9]] (rel [iI 2, is (.pointer (some ⟨(s1 0), 1, none⟩)), is (.slice a1 4 c1), iI 2, is (.pointer (some ⟨q1, o1 + 2, none⟩)), iI p2, iI (1000 * p2), iI cal, iI ((1000 * p2) - cal), is (.pointer (some ⟨(s2 1), 2, none⟩))])
  ⟨fun f s W c d h i j a => opm (a.v 6 k13_6),
  fun f s W c d h i j a => opv rfl rfl (by simp [go_sem, a.e 2 k13_2]) rfl,
  fun f s W c d h i j a => opv rfl rfl (by simp [go_sem, a.e 15 (d 1 rfl), cb b13_0 c 1]) rfl,
  fun f s W c d h i j a => opm (a.v 6 k13_6),
  fun f s W c d h i j a => opv rfl rfl (by simp [go_sem, a.e 16 (d 2 rfl), a.e 17 (d 3 rfl), hq1]) rfl,
  fun f s W c d h i j a => by have k := bwt fB13 c; have u_ : W.cell? ⟨q1, o1 + 2, none⟩ = some (.int .i64 (p2)) := (k.cell (p := ⟨q1, o1 + 2, none⟩) hql1).trans (hqc1 2 (by simp)); exact opv rfl rfl (by simp [go_sem, a.e 18 (d 4 rfl), u_]) rfl,
  fun f s W c d h i j a => opv rfl rfl (by simp [go_sem, a.e 19 (d 5 rfl), IntWalk.i64_in (1000 * p2) (by omega)]) rfl,
  fun f s W c d h i j a => opm (a.v 1 k13_1),
  fun f s W c d h i j a => opv rfl rfl (by simp [go_sem, a.e 20 (d 6 rfl), a.e 21 (d 7 rfl), IntWalk.i64_in ((1000 * p2) - cal) (by omega)]) rfl,
  fun f s W c d h i j a => opv rfl rfl (by simp [go_sem, a.e 5 k13_5, a.e 14 (d 0 rfl)]) rfl, trivial⟩ ?_
 intro f14 s14 W14 hB14 g14 hg14 z14
 have fB14 := hB14.f fB13
 have b14_0 := hB14.b b13_0
 have b14_1 := hB14.b (hB13.b (hB12.b b11_1))
 have b14_2 := hB14.b (hB13.b (hB12.b nb11))
 have k14_6 := kt hg14 6 k13_6
 have k14_22 := kt hg14 22 (hB14.is 8)
 have k14_23 := kt hg14 23 (hB14.is 9)
 obtain ⟨W15, hW15⟩ : ∃ W', W' = W14.setRow (s2 1) #[.int .i64 ((1000 * p0) - cal), .int .i64 ((1000 * p1) - cal), .int .i64 ((1000 * p2) - cal), .int .i64 0, .int .i64 0, .int .i64 0, .int .i64 0, .int .i64 0, .int .i64 0] := ⟨_, rfl⟩
 refine tsk (o := _) rfl ⟨rfl, rfl⟩ (run_seg hW15 (fr_ev k14_23) (fr_ev k14_22) b14_2 rfl rfl rfl rfl) ?_
 obtain ⟨fB15, nb15, ot15, z15⟩ := sgf hW15 fB14 b14_2 (by omega)
 clear hW15
 have b15_0 := ot15 _ _ (by omega) b14_0
 have b15_1 := ot15 _ _ (by omega) b14_1
 refine wpe ?_
 refine ibn ?_
 refine hK16 _ _ ?_
 refine ry 3 [(12, 0), (13, 1), (6, 2)] [[], [0], [0, 1]] (rel [iI 2, iI 3, iI 3])
  ⟨fun f s W c d h i j a => opm (a.v 6 ((i 2 6 rfl rfl).trans k14_6)),
  fun f s W c d h i j a => opv rfl rfl (by simp [go_sem, a.e 12 (d 0 rfl), IntWalk.i64_in (3) (by omega)]) rfl,
  fun f s W c d h i j a => opm (a.v 13 (d 1 rfl)), trivial⟩ ?_
 intro f16 s16 W16 hB16 g16 hg16 z16
 refine wpe ?_
 have k16_6 := kt hg16 6 (hB16.is 2)
 refine then_normal ?_
 rw [rounds_succ]
 refine wp_seq_k fun K17 hK17 => ?_
 refine rw_ 2 [(10, 0), (11, 1)] [[], [0]] (rel [iI 3, iB true])
  ⟨fun f s W c d h i j a => opm (a.v 6 k16_6),
  fun f s W c d h i j a => opv rfl rfl (by simp [go_sem, a.e 10 (d 0 rfl)]) rfl, trivial⟩ ?_
 intro f17 s17 W17 hB17 g17 hg17 z17
 have fB17 := hB17.f (hB16.f fB15)
 have b17_0 := hB17.b (hB16.b b15_0)
 have k17_1 := kt hg17 1 (kt hg16 1 (kt hg14 1 k13_1))
 have k17_2 := kt hg17 2 (kt hg16 2 (kt hg14 2 k13_2))
 have k17_5 := kt hg17 5 (kt hg16 5 (kt hg14 5 k13_5))
 have k17_6 := kt hg17 6 k16_6
 have k17_11 := kt hg17 11 (hB17.is 1)
 refine wp_cond_true ((fr_eval rfl).trans k17_11) ?_
 refine wp_skip ?_
 refine hK17 _ _ ?_
 refine wp_seq_k fun K20 hK20 => ?_
 refine wp_block ?_
 refine ry 10 [(14, 0), (15, 1), (16, 2), (17, 3), (18, 4), (19, 5), (20, 6), (21, 7), (22, 8), (23, 9)] [[], [], [1], [], [2, 3], [4], [5], [], [6, 7], [0], [0, 1, 2, 3, 4, 5, 6, 7, 8, 9]] (rel [iI 3, is (.pointer (some ⟨(s1 0), 1, none⟩)), is (.slice a1 4 c1), iI 3, is (.pointer (some ⟨q1, o1 + 3, none⟩)), iI p3, iI (1000 * p3), iI cal, iI ((1000 * p3) - cal), is (.pointer (some ⟨(s2 1), 3, none⟩))])
  ⟨fun f s W c d h i j a => opm (a.v 6 k17_6),
  fun f s W c d h i j a => opv rfl rfl (by simp [go_sem, a.e 2 k17_2]) rfl,
  fun f s W c d h i j a => opv rfl rfl (by simp [go_sem, a.e 15 (d 1 rfl), cb b17_0 c 1]) rfl,
  fun f s W c d h i j a => opm (a.v 6 k17_6),
  fun f s W c d h i j a => opv rfl rfl (by simp [go_sem, a.e 16 (d 2 rfl), a.e 17 (d 3 rfl), hq1]) rfl,
  fun f s W c d h i j a => by have k := bwt fB17 c; have u_ : W.cell? ⟨q1, o1 + 3, none⟩ = some (.int .i64 (p3)) := (k.cell (p := ⟨q1, o1 + 3, none⟩) hql1).trans (hqc1 3 (by simp)); exact opv rfl rfl (by simp [go_sem, a.e 18 (d 4 rfl), u_]) rfl,
  fun f s W c d h i j a => opv rfl rfl (by simp [go_sem, a.e 19 (d 5 rfl), IntWalk.i64_in (1000 * p3) (by omega)]) rfl,
  fun f s W c d h i j a => opm (a.v 1 k17_1),
  fun f s W c d h i j a => opv rfl rfl (by simp [go_sem, a.e 20 (d 6 rfl), a.e 21 (d 7 rfl), IntWalk.i64_in ((1000 * p3) - cal) (by omega)]) rfl,
  fun f s W c d h i j a => opv rfl rfl (by simp [go_sem, a.e 5 k17_5, a.e 14 (d 0 rfl)]) rfl, trivial⟩ ?_
 intro f18 s18 W18 hB18 g18 hg18 z18
 have fB18 := hB18.f fB17
 have b18_0 := hB18.b b17_0
 have b18_1 := hB18.b (hB17.b (hB16.b b15_1))
 have b18_2 := hB18.b (hB17.b (hB16.b nb15))
 have k18_6 := kt hg18 6 k17_6
 have k18_22 := kt hg18 22 (hB18.is 8)
 have k18_23 := kt hg18 23 (hB18.is 9)
 obtain ⟨W19, hW19⟩ : ∃ W', W' = W18.setRow (s2 1) #[.int .i64 ((1000 * p0) - cal), .int .i64 ((1000 * p1) - cal), .int .i64 ((1000 * p2) - cal), .int .i64 ((1000 * p3) - cal), .int .i64 0, .int .i64 0, .int .i64 0, .int .i64 0, .int .i64 0] := ⟨_, rfl⟩
 refine tsk (o := _) rfl ⟨rfl, rfl⟩ (run_seg hW19 (fr_ev k18_23) (fr_ev k18_22) b18_2 rfl rfl rfl rfl) ?_
 obtain ⟨fB19, nb19, ot19, z19⟩ := sgf hW19 fB18 b18_2 (by omega)
 clear hW19
 have b19_0 := ot19 _ _ (by omega) b18_0
 have b19_1 := ot19 _ _ (by omega) b18_1
 refine wpe ?_
 refine ibn ?_
 refine hK20 _ _ ?_
 refine ry 3 [(12, 0), (13, 1), (6, 2)] [[], [0], [0, 1]] (rel [iI 3, iI 4, iI 4])
  ⟨fun f s W c d h i j a => opm (a.v 6 ((i 2 6 rfl rfl).trans k18_6)),
  fun f s W c d h i j a => opv rfl rfl (by simp [go_sem, a.e 12 (d 0 rfl), IntWalk.i64_in (4) (by omega)]) rfl,
  fun f s W c d h i j a => opm (a.v 13 (d 1 rfl)), trivial⟩ ?_
 intro f20 s20 W20 hB20 g20 hg20 z20
 refine wpe ?_
 have k20_6 := kt hg20 6 (hB20.is 2)
 refine then_normal ?_
 rw [rounds_succ]
 refine wp_seq_k fun K21 hK21 => ?_
 refine rw_ 2 [(10, 0), (11, 1)] [[], [0]] (rel [iI 4, iB false])
  ⟨fun f s W c d h i j a => opm (a.v 6 k20_6),
  fun f s W c d h i j a => opv rfl rfl (by simp [go_sem, a.e 10 (d 0 rfl)]) rfl, trivial⟩ ?_
 intro f21 s21 W21 hB21 g21 hg21 z21
 have b21_0 := hB21.b (hB20.b b19_0)
 have k21_1 := kt hg21 1 (kt hg20 1 (kt hg18 1 k17_1))
 have k21_2 := kt hg21 2 (kt hg20 2 (kt hg18 2 k17_2))
 have k21_5 := kt hg21 5 (kt hg20 5 (kt hg18 5 k17_5))
 have k21_11 := kt hg21 11 (hB21.is 1)
 refine wp_cond_false ((fr_eval rfl).trans k21_11) ?_
 refine wp_exit ?_
 refine then_exit ?_
 refine then_exit ?_
 refine inBlock_at ?_
 refine hK3 _ _ ?_
 refine wp_seq_k fun K24 hK24 => ?_
 refine ry 7 [(24, 0), (25, 1), (26, 2), (27, 3), (28, 4), (29, 5), (30, 6)] [[], [0], [1], [], [3], [2, 4], [], [0, 1, 2, 3, 4, 5, 6]] (rel [is (.pointer (some ⟨(s1 0), 2, none⟩)), iI hh, iI (1000 * hh), iI cal, iI (2 * cal), iI ((1000 * hh) - (2 * cal)), is (.pointer (some ⟨(s2 1), 4, none⟩))])
  ⟨fun f s W c d h i j a => opv rfl rfl (by simp [go_sem, a.e 2 k21_2]) rfl,
  fun f s W c d h i j a => opv rfl rfl (by simp [go_sem, a.e 24 (d 0 rfl), cb b21_0 c 2]) rfl,
  fun f s W c d h i j a => opv rfl rfl (by simp [go_sem, a.e 25 (d 1 rfl), IntWalk.i64_in (1000 * hh) (by omega)]) rfl,
  fun f s W c d h i j a => opm (a.v 1 k21_1),
  fun f s W c d h i j a => opv rfl rfl (by simp [go_sem, a.e 27 (d 3 rfl), IntWalk.i64_in (2 * cal) (by omega)]) rfl,
  fun f s W c d h i j a => opv rfl rfl (by simp [go_sem, a.e 26 (d 2 rfl), a.e 28 (d 4 rfl), IntWalk.i64_in ((1000 * hh) - (2 * cal)) (by omega)]) rfl,
  fun f s W c d h i j a => opv rfl rfl (by simp [go_sem, a.e 5 k21_5]) rfl, trivial⟩ ?_
 intro f22 s22 W22 hB22 g22 hg22 z22
 have fB22 := hB22.f (hB21.f (hB20.f fB19))
 have b22_0 := hB22.b b21_0
 have b22_1 := hB22.b (hB21.b (hB20.b b19_1))
 have b22_2 := hB22.b (hB21.b (hB20.b nb19))
 have k22_2 := kt hg22 2 k21_2
 have k22_29 := kt hg22 29 (hB22.is 5)
 have k22_30 := kt hg22 30 (hB22.is 6)
 obtain ⟨W23, hW23⟩ : ∃ W', W' = W22.setRow (s2 1) #[.int .i64 ((1000 * p0) - cal), .int .i64 ((1000 * p1) - cal), .int .i64 ((1000 * p2) - cal), .int .i64 ((1000 * p3) - cal), .int .i64 ((1000 * hh) - (2 * cal)), .int .i64 0, .int .i64 0, .int .i64 0, .int .i64 0] := ⟨_, rfl⟩
 refine tsk (o := _) rfl ⟨rfl, rfl⟩ (run_seg hW23 (fr_ev k22_30) (fr_ev k22_29) b22_2 rfl rfl rfl rfl) ?_
 obtain ⟨fB23, nb23, ot23, z23⟩ := sgf hW23 fB22 b22_2 (by omega)
 clear hW23
 have b23_0 := ot23 _ _ (by omega) b22_0
 have b23_1 := ot23 _ _ (by omega) b22_1
 refine wpe ?_
 refine hK24 _ _ ?_
 refine wp_seq_k fun K25 hK25 => ?_
 suffices J1' : ∀ (g_ : Nat → Value) (W_ : World), (∃ (hv : Int), g_ 1 = .int .i64 cal ∧ g_ 2 = .pointer (some ⟨(s1 0), 0, none⟩) ∧ g_ 4 = .pointer (some ⟨(s1 1), 0, none⟩) ∧ g_ 5 = .pointer (some ⟨(s2 1), 0, none⟩) ∧ Below w.heap.size w W_ ∧ W23.heap.size ≤ W_.heap.size ∧ W_.heap[(s1 0)]? = some (.cells #[.int .i64 tab, .slice a1 4 c1, .int .i64 hh, .slice a2 2 c2, .slice a3 2 c3, .int .i64 sl, .bool op] 24 (0, 0)) ∧ W_.heap[(s1 1)]? = some (.cells #[.int .i64 0, .int .i64 0, .int .i64 0, .int .i64 0, .int .i64 0, .int .i64 0, .int .i64 0, .int .i64 0, .int .i64 0] 76 (0, 0)) ∧ W_.heap[(s2 1)]? = some (.cells #[.int .i64 ((1000 * p0) - cal), .int .i64 ((1000 * p1) - cal), .int .i64 ((1000 * p2) - cal), .int .i64 ((1000 * p3) - cal), .int .i64 hv, .int .i64 0, .int .i64 0, .int .i64 0, .int .i64 0] 76 (0, 0)) ∧ hv = (if op = true then 1000 * hh - 2 * cal + cal else 1000 * hh - 2 * cal)) → K25 (fr 68 g_) W_ by
  refine rw_ 2 [(31, 0), (32, 1)] [[], [0]] (rel [is (.pointer (some ⟨(s1 0), 6, none⟩)), iB op])
   ⟨fun f s W c d h i j a => opv rfl rfl (by simp [go_sem, a.e 2 k22_2]) rfl,
  fun f s W c d h i j a => opv rfl rfl (by simp [go_sem, a.e 31 (d 0 rfl), cb b23_0 c 6]) rfl, trivial⟩ ?_
  intro f24 s24 W24 hB24 g24 hg24 z24
  have fB24 := hB24.f fB23
  have b24_0 := hB24.b b23_0
  have b24_1 := hB24.b b23_1
  have b24_2 := hB24.b nb23
  have k24_1 := kt hg24 1 (kt hg22 1 k21_1)
  have k24_2 := kt hg24 2 k22_2
  have k24_4 := kt hg24 4 (kt hg22 4 (kt hg21 4 (kt hg20 4 (kt hg18 4 (kt hg17 4 (kt hg16 4 (kt hg14 4 (kt hg13 4 (kt hg12 4 (kt hg10 4 (kt hg9 4 (kt hg8 4 (kt hg6 4 (kt hg5 4 (kt hg4 4 (kt hg2 4 (kt hg1 4 r1_1)))))))))))))))))
  have k24_5 := kt hg24 5 (kt hg22 5 k21_5)
  have k24_32 := kt hg24 32 (hB24.is 1)
  refine wp_cond_split (t := op) ((fr_eval rfl).trans k24_32) (fun hc27 => ?_) (fun hc27 => ?_)
  ·
   have hc27' := hc27; try simp only [ba] at hc27'
   refine ry 5 [(33, 0), (34, 1), (35, 2), (36, 3), (37, 4)] [[], [0], [], [1, 2], [], [0, 1, 2, 3, 4]] (rel [is (.pointer (some ⟨(s2 1), 4, none⟩)), iI ((1000 * hh) - (2 * cal)), iI cal, iI (((1000 * hh) - (2 * cal)) + cal), is (.pointer (some ⟨(s2 1), 4, none⟩))])
    ⟨fun f s W c d h i j a => opv rfl rfl (by simp [go_sem, a.e 5 k24_5]) rfl,
  fun f s W c d h i j a => opv rfl rfl (by simp [go_sem, a.e 33 (d 0 rfl), cb b24_2 c 4]) rfl,
  fun f s W c d h i j a => opm (a.v 1 k24_1),
  fun f s W c d h i j a => opv rfl rfl (by simp [go_sem, a.e 34 (d 1 rfl), a.e 35 (d 2 rfl), IntWalk.i64_in (((1000 * hh) - (2 * cal)) + cal) (by omega)]) rfl,
  fun f s W c d h i j a => opv rfl rfl (by simp [go_sem, a.e 5 k24_5]) rfl, trivial⟩ ?_
   intro f25 s25 W25 hB25 g25 hg25 z25
   have fB25 := hB25.f fB24
   have b25_0 := hB25.b b24_0
   have b25_1 := hB25.b b24_1
   have b25_2 := hB25.b b24_2
   have k25_1 := kt hg25 1 k24_1
   have k25_2 := kt hg25 2 k24_2
   have k25_4 := kt hg25 4 k24_4
   have k25_5 := kt hg25 5 k24_5
   have k25_36 := kt hg25 36 (hB25.is 3)
   have k25_37 := kt hg25 37 (hB25.is 4)
   obtain ⟨W26, hW26⟩ : ∃ W', W' = W25.setRow (s2 1) #[.int .i64 ((1000 * p0) - cal), .int .i64 ((1000 * p1) - cal), .int .i64 ((1000 * p2) - cal), .int .i64 ((1000 * p3) - cal), .int .i64 (((1000 * hh) - (2 * cal)) + cal), .int .i64 0, .int .i64 0, .int .i64 0, .int .i64 0] := ⟨_, rfl⟩
   refine tsk (o := _) rfl ⟨rfl, rfl⟩ (run_seg hW26 (fr_ev k25_37) (fr_ev k25_36) b25_2 rfl rfl rfl rfl) ?_
   obtain ⟨fB26, nb26, ot26, z26⟩ := sgf hW26 fB25 b25_2 (by omega)
   clear hW26
   have b26_0 := ot26 _ _ (by omega) b25_0
   have b26_1 := ot26 _ _ (by omega) b25_1
   refine wpe ?_
   exact J1' _ _ ⟨((1000 * hh) - (2 * cal)) + cal, k25_1, k25_2, k25_4, k25_5, fB26, (by omega), b26_0, b26_1, nb26, (by rw [hc27]; rfl)⟩
  ·
   have hc27' := hc27; try simp only [ba] at hc27'
   refine wp_skip ?_
   exact J1' _ _ ⟨(1000 * hh) - (2 * cal), k24_1, k24_2, k24_4, k24_5, fB24, (by omega), b24_0, b24_1, b24_2, (by rw [hc27]; rfl)⟩
 rintro g_2 W_2 ⟨hv, k_2_1, k_2_2, k_2_4, k_2_5, fB_2, z_2, b_2_0, b_2_1, m_2_0, jp_0⟩
 refine hK25 _ _ ?_
 refine wp_seq_k fun K28 hK28 => ?_
 refine rw_ 1 [(7, 0)] [[]] (rel [iI 0])
  ⟨fun f s W c d h i j a => opz, trivial⟩ ?_
 intro f27 s27 W27 hB27 g27 hg27 z27
 have k27_7 := kt hg27 7 (hB27.is 0)
 refine wp_block ?_
 refine wp_loop_rounds 5 ?_
 rw [rounds_succ]
 refine wp_seq_k fun K30 hK30 => ?_
 refine rw_ 2 [(38, 0), (39, 1)] [[], [0]] (rel [iI 0, iB true])
  ⟨fun f s W c d h i j a => opm (a.v 7 k27_7),
  fun f s W c d h i j a => opv rfl rfl (by simp [go_sem, a.e 38 (d 0 rfl)]) rfl, trivial⟩ ?_
 intro f28 s28 W28 hB28 g28 hg28 z28
 have fB28 := hB28.f (hB27.f fB_2)
 have b28_0 := hB28.b (hB27.b b_2_0)
 have k28_2 := kt hg28 2 (kt hg27 2 k_2_2)
 have k28_7 := kt hg28 7 k27_7
 have k28_39 := kt hg28 39 (hB28.is 1)
 refine wp_cond_true ((fr_eval rfl).trans k28_39) ?_
 refine wp_skip ?_
 refine hK30 _ _ ?_
 refine wp_seq_k fun K33 hK33 => ?_
 refine wp_block ?_
 refine rw_ 7 [(42, 0), (43, 1), (44, 2), (45, 3), (46, 4), (47, 5), (8, 6)] [[], [0], [], [2], [1, 3], [4], [5]] (rel [is (.pointer (some ⟨(s1 0), 4, none⟩)), is (.slice a3 2 c3), iI 0, iI 0, is (.pointer (some ⟨q3, o3, none⟩)), iI u0, iI u0])
  ⟨fun f s W c d h i j a => opv rfl rfl (by simp [go_sem, a.e 2 k28_2]) rfl,
  fun f s W c d h i j a => opv rfl rfl (by simp [go_sem, a.e 42 (d 0 rfl), cb b28_0 c 4]) rfl,
  fun f s W c d h i j a => opm (a.v 7 k28_7),
  fun f s W c d h i j a => opv rfl rfl (by simp [go_sem, a.e 44 (d 2 rfl)]) rfl,
  fun f s W c d h i j a => opv rfl rfl (by simp [go_sem, a.e 43 (d 1 rfl), a.e 45 (d 3 rfl), hq3]) rfl,
  fun f s W c d h i j a => by have k := bwt fB28 c; have u_ : W.cell? ⟨q3, o3, none⟩ = some (.int .i64 (u0)) := (k.cell (p := ⟨q3, o3, none⟩) hql3).trans (hqc3 0 (by simp)); exact opv rfl rfl (by simp [go_sem, a.e 46 (d 4 rfl), u_]) rfl,
  fun f s W c d h i j a => opm (a.v 47 (d 5 rfl)), trivial⟩ ?_
 intro f29 s29 W29 hB29 g29 hg29 z29
 have k29_7 := kt hg29 7 k28_7
 refine wp_seq_k fun K35 hK35 => ?_
 refine rw_ 2 [(48, 0), (49, 1)] [[], [0]] (rel [iI 0, iB true])
  ⟨fun f s W c d h i j a => opm (a.v 7 k29_7),
  fun f s W c d h i j a => opv rfl rfl (by simp [go_sem, a.e 48 (d 0 rfl)]) rfl, trivial⟩ ?_
 intro f30 s30 W30 hB30 g30 hg30 z30
 have fB30 := hB30.f (hB29.f fB28)
 have b30_0 := hB30.b (hB29.b b28_0)
 have k30_2 := kt hg30 2 (kt hg29 2 k28_2)
 have k30_7 := kt hg30 7 k29_7
 have k30_49 := kt hg30 49 (hB30.is 1)
 refine wp_cond_true ((fr_eval rfl).trans k30_49) ?_
 refine ry 7 [(50, 0), (51, 1), (52, 2), (53, 3), (54, 4), (55, 5), (8, 6)] [[], [0], [], [2], [1, 3], [4], [5]] (rel [is (.pointer (some ⟨(s1 0), 3, none⟩)), is (.slice a2 2 c2), iI 0, iI 0, is (.pointer (some ⟨q2, o2, none⟩)), iI t0, iI t0])
  ⟨fun f s W c d h i j a => opv rfl rfl (by simp [go_sem, a.e 2 k30_2]) rfl,
  fun f s W c d h i j a => opv rfl rfl (by simp [go_sem, a.e 50 (d 0 rfl), cb b30_0 c 3]) rfl,
  fun f s W c d h i j a => opm (a.v 7 k30_7),
  fun f s W c d h i j a => opv rfl rfl (by simp [go_sem, a.e 52 (d 2 rfl)]) rfl,
  fun f s W c d h i j a => opv rfl rfl (by simp [go_sem, a.e 51 (d 1 rfl), a.e 53 (d 3 rfl), hq2]) rfl,
  fun f s W c d h i j a => by have k := bwt fB30 c; have u_ : W.cell? ⟨q2, o2, none⟩ = some (.int .i64 (t0)) := (k.cell (p := ⟨q2, o2, none⟩) hql2).trans (hqc2 0 (by simp)); exact opv rfl rfl (by simp [go_sem, a.e 54 (d 4 rfl), u_]) rfl,
  fun f s W c d h i j a => opm (a.v 55 (d 5 rfl)), trivial⟩ ?_
 intro f31 s31 W31 hB31 g31 hg31 z31
 have b31_2 := hB31.b (hB30.b (hB29.b (hB28.b (hB27.b m_2_0))))
 refine hK35 _ _ ?_
 have k31_5 := kt hg31 5 (kt hg30 5 (kt hg29 5 (kt hg28 5 (kt hg27 5 k_2_5))))
 have k31_7 := kt hg31 7 k30_7
 have k31_8 := kt hg31 8 (hB31.is 6)
 refine ry 11 [(56, 0), (57, 1), (58, 2), (59, 3), (60, 4), (61, 5), (62, 6), (63, 7), (64, 8), (65, 9), (66, 10)] [[], [0], [], [2], [3], [4], [5], [], [7], [6, 8], [1], [0, 1, 2, 3, 4, 5, 6, 7, 8, 9, 10]] (rel [iI 0, iI 5, iI 0, iI 0, iI 1, is (.pointer (some ⟨(s2 1), 1, none⟩)), iI ((1000 * p1) - cal), iI t0, iI (2000 * t0), iI (((1000 * p1) - cal) - (2000 * t0)), is (.pointer (some ⟨(s2 1), 5, none⟩))])
  ⟨fun f s W c d h i j a => opm (a.v 7 k31_7),
  fun f s W c d h i j a => opv rfl rfl (by simp [go_sem, a.e 56 (d 0 rfl), IntWalk.i64_in (5) (by omega)]) rfl,
  fun f s W c d h i j a => opm (a.v 7 k31_7),
  fun f s W c d h i j a => opv rfl rfl (by simp [go_sem, a.e 58 (d 2 rfl)]) rfl,
  fun f s W c d h i j a => opv rfl rfl (by simp [go_sem, a.e 59 (d 3 rfl), IntWalk.i64_in (1) (by omega)]) rfl,
  fun f s W c d h i j a => opv rfl rfl (by simp [go_sem, a.e 5 k31_5, a.e 60 (d 4 rfl)]) rfl,
  fun f s W c d h i j a => opv rfl rfl (by simp [go_sem, a.e 61 (d 5 rfl), cb b31_2 c 1]) rfl,
  fun f s W c d h i j a => opm (a.v 8 k31_8),
  fun f s W c d h i j a => opv rfl rfl (by simp [go_sem, a.e 63 (d 7 rfl), IntWalk.i64_in (2000 * t0) (by omega)]) rfl,
  fun f s W c d h i j a => opv rfl rfl (by simp [go_sem, a.e 62 (d 6 rfl), a.e 64 (d 8 rfl), IntWalk.i64_in (((1000 * p1) - cal) - (2000 * t0)) (by omega)]) rfl,
  fun f s W c d h i j a => opv rfl rfl (by simp [go_sem, a.e 5 k31_5, a.e 57 (d 1 rfl)]) rfl, trivial⟩ ?_
 intro f32 s32 W32 hB32 g32 hg32 z32
 have fB32 := hB32.f (hB31.f fB30)
 have b32_0 := hB32.b (hB31.b b30_0)
 have b32_1 := hB32.b (hB31.b (hB30.b (hB29.b (hB28.b (hB27.b b_2_1)))))
 have b32_2 := hB32.b b31_2
 have k32_7 := kt hg32 7 k31_7
 have k32_65 := kt hg32 65 (hB32.is 9)
 have k32_66 := kt hg32 66 (hB32.is 10)
 obtain ⟨W33, hW33⟩ : ∃ W', W' = W32.setRow (s2 1) #[.int .i64 ((1000 * p0) - cal), .int .i64 ((1000 * p1) - cal), .int .i64 ((1000 * p2) - cal), .int .i64 ((1000 * p3) - cal), .int .i64 hv, .int .i64 (((1000 * p1) - cal) - (2000 * t0)), .int .i64 0, .int .i64 0, .int .i64 0] := ⟨_, rfl⟩
 refine tsk (o := _) rfl ⟨rfl, rfl⟩ (run_seg hW33 (fr_ev k32_66) (fr_ev k32_65) b32_2 rfl rfl rfl rfl) ?_
 obtain ⟨fB33, nb33, ot33, z33⟩ := sgf hW33 fB32 b32_2 (by omega)
 clear hW33
 have b33_0 := ot33 _ _ (by omega) b32_0
 have b33_1 := ot33 _ _ (by omega) b32_1
 refine wpe ?_
 refine ibn ?_
 refine hK33 _ _ ?_
 refine ry 3 [(40, 0), (41, 1), (7, 2)] [[], [0], [0, 1]] (rel [iI 0, iI 1, iI 1])
  ⟨fun f s W c d h i j a => opm (a.v 7 ((i 2 7 rfl rfl).trans k32_7)),
  fun f s W c d h i j a => opv rfl rfl (by simp [go_sem, a.e 40 (d 0 rfl), IntWalk.i64_in (1) (by omega)]) rfl,
  fun f s W c d h i j a => opm (a.v 41 (d 1 rfl)), trivial⟩ ?_
 intro f34 s34 W34 hB34 g34 hg34 z34
 refine wpe ?_
 have k34_7 := kt hg34 7 (hB34.is 2)
 refine then_normal ?_
 rw [rounds_succ]
 refine wp_seq_k fun K38 hK38 => ?_
 refine rw_ 2 [(38, 0), (39, 1)] [[], [0]] (rel [iI 1, iB true])
  ⟨fun f s W c d h i j a => opm (a.v 7 k34_7),
  fun f s W c d h i j a => opv rfl rfl (by simp [go_sem, a.e 38 (d 0 rfl)]) rfl, trivial⟩ ?_
 intro f35 s35 W35 hB35 g35 hg35 z35
 have fB35 := hB35.f (hB34.f fB33)
 have b35_0 := hB35.b (hB34.b b33_0)
 have k35_2 := kt hg35 2 (kt hg34 2 (kt hg32 2 (kt hg31 2 k30_2)))
 have k35_7 := kt hg35 7 k34_7
 have k35_39 := kt hg35 39 (hB35.is 1)
 refine wp_cond_true ((fr_eval rfl).trans k35_39) ?_
 refine wp_skip ?_
 refine hK38 _ _ ?_
 refine wp_seq_k fun K41 hK41 => ?_
 refine wp_block ?_
 refine rw_ 7 [(42, 0), (43, 1), (44, 2), (45, 3), (46, 4), (47, 5), (8, 6)] [[], [0], [], [2], [1, 3], [4], [5]] (rel [is (.pointer (some ⟨(s1 0), 4, none⟩)), is (.slice a3 2 c3), iI 1, iI 1, is (.pointer (some ⟨q3, o3 + 1, none⟩)), iI u1, iI u1])
  ⟨fun f s W c d h i j a => opv rfl rfl (by simp [go_sem, a.e 2 k35_2]) rfl,
  fun f s W c d h i j a => opv rfl rfl (by simp [go_sem, a.e 42 (d 0 rfl), cb b35_0 c 4]) rfl,
  fun f s W c d h i j a => opm (a.v 7 k35_7),
  fun f s W c d h i j a => opv rfl rfl (by simp [go_sem, a.e 44 (d 2 rfl)]) rfl,
  fun f s W c d h i j a => opv rfl rfl (by simp [go_sem, a.e 43 (d 1 rfl), a.e 45 (d 3 rfl), hq3]) rfl,
  fun f s W c d h i j a => by have k := bwt fB35 c; have u_ : W.cell? ⟨q3, o3 + 1, none⟩ = some (.int .i64 (u1)) := (k.cell (p := ⟨q3, o3 + 1, none⟩) hql3).trans (hqc3 1 (by simp)); exact opv rfl rfl (by simp [go_sem, a.e 46 (d 4 rfl), u_]) rfl,
  fun f s W c d h i j a => opm (a.v 47 (d 5 rfl)), trivial⟩ ?_
 intro f36 s36 W36 hB36 g36 hg36 z36
 have k36_7 := kt hg36 7 k35_7
 refine wp_seq_k fun K43 hK43 => ?_
 refine rw_ 2 [(48, 0), (49, 1)] [[], [0]] (rel [iI 1, iB true])
  ⟨fun f s W c d h i j a => opm (a.v 7 k36_7),
  fun f s W c d h i j a => opv rfl rfl (by simp [go_sem, a.e 48 (d 0 rfl)]) rfl, trivial⟩ ?_
 intro f37 s37 W37 hB37 g37 hg37 z37
 have fB37 := hB37.f (hB36.f fB35)
 have b37_0 := hB37.b (hB36.b b35_0)
 have k37_2 := kt hg37 2 (kt hg36 2 k35_2)
 have k37_7 := kt hg37 7 k36_7
 have k37_49 := kt hg37 49 (hB37.is 1)
 refine wp_cond_true ((fr_eval rfl).trans k37_49) ?_
 refine ry 7 [(50, 0), (51, 1), (52, 2), (53, 3), (54, 4), (55, 5), (8, 6)] [[], [0], [], [2], [1, 3], [4], [5]] (rel [is (.pointer (some ⟨(s1 0), 3, none⟩)), is (.slice a2 2 c2), iI 1, iI 1, is (.pointer (some ⟨q2, o2 + 1, none⟩)), iI t1, iI t1])
  ⟨fun f s W c d h i j a => opv rfl rfl (by simp [go_sem, a.e 2 k37_2]) rfl,
  fun f s W c d h i j a => opv rfl rfl (by simp [go_sem, a.e 50 (d 0 rfl), cb b37_0 c 3]) rfl,
  fun f s W c d h i j a => opm (a.v 7 k37_7),
  fun f s W c d h i j a => opv rfl rfl (by simp [go_sem, a.e 52 (d 2 rfl)]) rfl,
  fun f s W c d h i j a => opv rfl rfl (by simp [go_sem, a.e 51 (d 1 rfl), a.e 53 (d 3 rfl), hq2]) rfl,
  fun f s W c d h i j a => by have k := bwt fB37 c; have u_ : W.cell? ⟨q2, o2 + 1, none⟩ = some (.int .i64 (t1)) := (k.cell (p := ⟨q2, o2 + 1, none⟩) hql2).trans (hqc2 1 (by simp)); exact opv rfl rfl (by simp [go_sem, a.e 54 (d 4 rfl), u_]) rfl,
  fun f s W c d h i j a => opm (a.v 55 (d 5 rfl)), trivial⟩ ?_
 intro f38 s38 W38 hB38 g38 hg38 z38
 have b38_2 := hB38.b (hB37.b (hB36.b (hB35.b (hB34.b nb33))))
 refine hK43 _ _ ?_
 have k38_5 := kt hg38 5 (kt hg37 5 (kt hg36 5 (kt hg35 5 (kt hg34 5 (kt hg32 5 k31_5)))))
 have k38_7 := kt hg38 7 k37_7
 have k38_8 := kt hg38 8 (hB38.is 6)
 refine ry 11 [(56, 0), (57, 1), (58, 2), (59, 3), (60, 4), (61, 5), (62, 6), (63, 7), (64, 8), (65, 9), (66, 10)] [[], [0], [], [2], [3], [4], [5], [], [7], [6, 8], [1], [0, 1, 2, 3, 4, 5, 6, 7, 8, 9, 10]] (rel [iI 1, iI 6, iI 1, iI 1, iI 0, is (.pointer (some ⟨(s2 1), 0, none⟩)), iI ((1000 * p0) - cal), iI t1, iI (2000 * t1), iI (((1000 * p0) - cal) - (2000 * t1)), is (.pointer (some ⟨(s2 1), 6, none⟩))])
  ⟨fun f s W c d h i j a => opm (a.v 7 k38_7),
  fun f s W c d h i j a => opv rfl rfl (by simp [go_sem, a.e 56 (d 0 rfl), IntWalk.i64_in (6) (by omega)]) rfl,
  fun f s W c d h i j a => opm (a.v 7 k38_7),
  fun f s W c d h i j a => opv rfl rfl (by simp [go_sem, a.e 58 (d 2 rfl)]) rfl,
  fun f s W c d h i j a => opv rfl rfl (by simp [go_sem, a.e 59 (d 3 rfl), IntWalk.i64_in (0) (by omega)]) rfl,
  fun f s W c d h i j a => opv rfl rfl (by simp [go_sem, a.e 5 k38_5, a.e 60 (d 4 rfl)]) rfl,
  fun f s W c d h i j a => opv rfl rfl (by simp [go_sem, a.e 61 (d 5 rfl), cb b38_2 c 0]) rfl,
  fun f s W c d h i j a => opm (a.v 8 k38_8),
  fun f s W c d h i j a => opv rfl rfl (by simp [go_sem, a.e 63 (d 7 rfl), IntWalk.i64_in (2000 * t1) (by omega)]) rfl,
  fun f s W c d h i j a => opv rfl rfl (by simp [go_sem, a.e 62 (d 6 rfl), a.e 64 (d 8 rfl), IntWalk.i64_in (((1000 * p0) - cal) - (2000 * t1)) (by omega)]) rfl,
  fun f s W c d h i j a => opv rfl rfl (by simp [go_sem, a.e 5 k38_5, a.e 57 (d 1 rfl)]) rfl, trivial⟩ ?_
 intro f39 s39 W39 hB39 g39 hg39 z39
 have fB39 := hB39.f (hB38.f fB37)
 have b39_0 := hB39.b (hB38.b b37_0)
 have b39_1 := hB39.b (hB38.b (hB37.b (hB36.b (hB35.b (hB34.b b33_1)))))
 have b39_2 := hB39.b b38_2
 have k39_7 := kt hg39 7 k38_7
 have k39_65 := kt hg39 65 (hB39.is 9)
 have k39_66 := kt hg39 66 (hB39.is 10)
 obtain ⟨W40, hW40⟩ : ∃ W', W' = W39.setRow (s2 1) #[.int .i64 ((1000 * p0) - cal), .int .i64 ((1000 * p1) - cal), .int .i64 ((1000 * p2) - cal), .int .i64 ((1000 * p3) - cal), .int .i64 hv, .int .i64 (((1000 * p1) - cal) - (2000 * t0)), .int .i64 (((1000 * p0) - cal) - (2000 * t1)), .int .i64 0, .int .i64 0] := ⟨_, rfl⟩
 refine tsk (o := _) rfl ⟨rfl, rfl⟩ (run_seg hW40 (fr_ev k39_66) (fr_ev k39_65) b39_2 rfl rfl rfl rfl) ?_
 obtain ⟨fB40, nb40, ot40, z40⟩ := sgf hW40 fB39 b39_2 (by omega)
 clear hW40
 have b40_0 := ot40 _ _ (by omega) b39_0
 have b40_1 := ot40 _ _ (by omega) b39_1
 refine wpe ?_
 refine ibn ?_
 refine hK41 _ _ ?_
 refine ry 3 [(40, 0), (41, 1), (7, 2)] [[], [0], [0, 1]] (rel [iI 1, iI 2, iI 2])
  ⟨fun f s W c d h i j a => opm (a.v 7 ((i 2 7 rfl rfl).trans k39_7)),
  fun f s W c d h i j a => opv rfl rfl (by simp [go_sem, a.e 40 (d 0 rfl), IntWalk.i64_in (2) (by omega)]) rfl,
  fun f s W c d h i j a => opm (a.v 41 (d 1 rfl)), trivial⟩ ?_
 intro f41 s41 W41 hB41 g41 hg41 z41
 refine wpe ?_
 have k41_7 := kt hg41 7 (hB41.is 2)
 refine then_normal ?_
 rw [rounds_succ]
 refine wp_seq_k fun K46 hK46 => ?_
 refine rw_ 2 [(38, 0), (39, 1)] [[], [0]] (rel [iI 2, iB true])
  ⟨fun f s W c d h i j a => opm (a.v 7 k41_7),
  fun f s W c d h i j a => opv rfl rfl (by simp [go_sem, a.e 38 (d 0 rfl)]) rfl, trivial⟩ ?_
 intro f42 s42 W42 hB42 g42 hg42 z42
 have fB42 := hB42.f (hB41.f fB40)
 have b42_0 := hB42.b (hB41.b b40_0)
 have k42_2 := kt hg42 2 (kt hg41 2 (kt hg39 2 (kt hg38 2 k37_2)))
 have k42_7 := kt hg42 7 k41_7
 have k42_39 := kt hg42 39 (hB42.is 1)
 refine wp_cond_true ((fr_eval rfl).trans k42_39) ?_
 refine wp_skip ?_
 refine hK46 _ _ ?_
 refine wp_seq_k fun K49 hK49 => ?_
 refine wp_block ?_
 refine rw_ 7 [(42, 0), (43, 1), (44, 2), (45, 3), (46, 4), (47, 5), (8, 6)] [[], [0], [], [2], [1, 3], [4], [5]] (rel [is (.pointer (some ⟨(s1 0), 4, none⟩)), is (.slice a3 2 c3), iI 2, iI 0, is (.pointer (some ⟨q3, o3, none⟩)), iI u0, iI u0])
  ⟨fun f s W c d h i j a => opv rfl rfl (by simp [go_sem, a.e 2 k42_2]) rfl,
  fun f s W c d h i j a => opv rfl rfl (by simp [go_sem, a.e 42 (d 0 rfl), cb b42_0 c 4]) rfl,
  fun f s W c d h i j a => opm (a.v 7 k42_7),
  fun f s W c d h i j a => opv rfl rfl (by simp [go_sem, a.e 44 (d 2 rfl)]) rfl,
  fun f s W c d h i j a => opv rfl rfl (by simp [go_sem, a.e 43 (d 1 rfl), a.e 45 (d 3 rfl), hq3]) rfl,
  fun f s W c d h i j a => by have k := bwt fB42 c; have u_ : W.cell? ⟨q3, o3, none⟩ = some (.int .i64 (u0)) := (k.cell (p := ⟨q3, o3, none⟩) hql3).trans (hqc3 0 (by simp)); exact opv rfl rfl (by simp [go_sem, a.e 46 (d 4 rfl), u_]) rfl,
  fun f s W c d h i j a => opm (a.v 47 (d 5 rfl)), trivial⟩ ?_
 intro f43 s43 W43 hB43 g43 hg43 z43
 have k43_7 := kt hg43 7 k42_7
 refine wp_seq_k fun K51 hK51 => ?_
 refine rw_ 2 [(48, 0), (49, 1)] [[], [0]] (rel [iI 2, iB false])
  ⟨fun f s W c d h i j a => opm (a.v 7 k43_7),
  fun f s W c d h i j a => opv rfl rfl (by simp [go_sem, a.e 48 (d 0 rfl)]) rfl, trivial⟩ ?_
 intro f44 s44 W44 hB44 g44 hg44 z44
 have b44_2 := hB44.b (hB43.b (hB42.b (hB41.b nb40)))
 have k44_5 := kt hg44 5 (kt hg43 5 (kt hg42 5 (kt hg41 5 (kt hg39 5 k38_5))))
 have k44_7 := kt hg44 7 k43_7
 have k44_8 := kt hg44 8 (kt hg43 8 (hB43.is 6))
 have k44_49 := kt hg44 49 (hB44.is 1)
 refine wp_cond_false ((fr_eval rfl).trans k44_49) ?_
 refine wp_skip ?_
 refine hK51 _ _ ?_
 refine ry 11 [(56, 0), (57, 1), (58, 2), (59, 3), (60, 4), (61, 5), (62, 6), (63, 7), (64, 8), (65, 9), (66, 10)] [[], [0], [], [2], [3], [4], [5], [], [7], [6, 8], [1], [0, 1, 2, 3, 4, 5, 6, 7, 8, 9, 10]] (rel [iI 2, iI 7, iI 2, iI 0, iI 1, is (.pointer (some ⟨(s2 1), 1, none⟩)), iI ((1000 * p1) - cal), iI u0, iI (2000 * u0), iI (((1000 * p1) - cal) - (2000 * u0)), is (.pointer (some ⟨(s2 1), 7, none⟩))])
  ⟨fun f s W c d h i j a => opm (a.v 7 k44_7),
  fun f s W c d h i j a => opv rfl rfl (by simp [go_sem, a.e 56 (d 0 rfl), IntWalk.i64_in (7) (by omega)]) rfl,
  fun f s W c d h i j a => opm (a.v 7 k44_7),
  fun f s W c d h i j a => opv rfl rfl (by simp [go_sem, a.e 58 (d 2 rfl)]) rfl,
  fun f s W c d h i j a => opv rfl rfl (by simp [go_sem, a.e 59 (d 3 rfl), IntWalk.i64_in (1) (by omega)]) rfl,
  fun f s W c d h i j a => opv rfl rfl (by simp [go_sem, a.e 5 k44_5, a.e 60 (d 4 rfl)]) rfl,
  fun f s W c d h i j a => opv rfl rfl (by simp [go_sem, a.e 61 (d 5 rfl), cb b44_2 c 1]) rfl,
  fun f s W c d h i j a => opm (a.v 8 k44_8),
  fun f s W c d h i j a => opv rfl rfl (by simp [go_sem, a.e 63 (d 7 rfl), IntWalk.i64_in (2000 * u0) (by omega)]) rfl,
  fun f s W c d h i j a => opv rfl rfl (by simp [go_sem, a.e 62 (d 6 rfl), a.e 64 (d 8 rfl), IntWalk.i64_in (((1000 * p1) - cal) - (2000 * u0)) (by omega)]) rfl,
  fun f s W c d h i j a => opv rfl rfl (by simp [go_sem, a.e 5 k44_5, a.e 57 (d 1 rfl)]) rfl, trivial⟩ ?_
 intro f45 s45 W45 hB45 g45 hg45 z45
 have fB45 := hB45.f (hB44.f (hB43.f fB42))
 have b45_0 := hB45.b (hB44.b (hB43.b b42_0))
 have b45_1 := hB45.b (hB44.b (hB43.b (hB42.b (hB41.b b40_1))))
 have b45_2 := hB45.b b44_2
 have k45_7 := kt hg45 7 k44_7
 have k45_65 := kt hg45 65 (hB45.is 9)
 have k45_66 := kt hg45 66 (hB45.is 10)
 obtain ⟨W46, hW46⟩ : ∃ W', W' = W45.setRow (s2 1) #[.int .i64 ((1000 * p0) - cal), .int .i64 ((1000 * p1) - cal), .int .i64 ((1000 * p2) - cal), .int .i64 ((1000 * p3) - cal), .int .i64 hv, .int .i64 (((1000 * p1) - cal) - (2000 * t0)), .int .i64 (((1000 * p0) - cal) - (2000 * t1)), .int .i64 (((1000 * p1) - cal) - (2000 * u0)), .int .i64 0] := ⟨_, rfl⟩
 refine tsk (o := _) rfl ⟨rfl, rfl⟩ (run_seg hW46 (fr_ev k45_66) (fr_ev k45_65) b45_2 rfl rfl rfl rfl) ?_
 obtain ⟨fB46, nb46, ot46, z46⟩ := sgf hW46 fB45 b45_2 (by omega)
 clear hW46
 have b46_0 := ot46 _ _ (by omega) b45_0
 have b46_1 := ot46 _ _ (by omega) b45_1
 refine wpe ?_
 refine ibn ?_
 refine hK49 _ _ ?_
 refine ry 3 [(40, 0), (41, 1), (7, 2)] [[], [0], [0, 1]] (rel [iI 2, iI 3, iI 3])
  ⟨fun f s W c d h i j a => opm (a.v 7 ((i 2 7 rfl rfl).trans k45_7)),
  fun f s W c d h i j a => opv rfl rfl (by simp [go_sem, a.e 40 (d 0 rfl), IntWalk.i64_in (3) (by omega)]) rfl,
  fun f s W c d h i j a => opm (a.v 41 (d 1 rfl)), trivial⟩ ?_
 intro f47 s47 W47 hB47 g47 hg47 z47
 refine wpe ?_
 have k47_7 := kt hg47 7 (hB47.is 2)
 refine then_normal ?_
 rw [rounds_succ]
 refine wp_seq_k fun K54 hK54 => ?_
 refine rw_ 2 [(38, 0), (39, 1)] [[], [0]] (rel [iI 3, iB true])
  ⟨fun f s W c d h i j a => opm (a.v 7 k47_7),
  fun f s W c d h i j a => opv rfl rfl (by simp [go_sem, a.e 38 (d 0 rfl)]) rfl, trivial⟩ ?_
 intro f48 s48 W48 hB48 g48 hg48 z48
 have fB48 := hB48.f (hB47.f fB46)
 have b48_0 := hB48.b (hB47.b b46_0)
 have k48_2 := kt hg48 2 (kt hg47 2 (kt hg45 2 (kt hg44 2 (kt hg43 2 k42_2))))
 have k48_7 := kt hg48 7 k47_7
 have k48_39 := kt hg48 39 (hB48.is 1)
 refine wp_cond_true ((fr_eval rfl).trans k48_39) ?_
 refine wp_skip ?_
 refine hK54 _ _ ?_
 refine wp_seq_k fun K57 hK57 => ?_
 refine wp_block ?_
 refine rw_ 7 [(42, 0), (43, 1), (44, 2), (45, 3), (46, 4), (47, 5), (8, 6)] [[], [0], [], [2], [1, 3], [4], [5]] (rel [is (.pointer (some ⟨(s1 0), 4, none⟩)), is (.slice a3 2 c3), iI 3, iI 1, is (.pointer (some ⟨q3, o3 + 1, none⟩)), iI u1, iI u1])
  ⟨fun f s W c d h i j a => opv rfl rfl (by simp [go_sem, a.e 2 k48_2]) rfl,
  fun f s W c d h i j a => opv rfl rfl (by simp [go_sem, a.e 42 (d 0 rfl), cb b48_0 c 4]) rfl,
  fun f s W c d h i j a => opm (a.v 7 k48_7),
  fun f s W c d h i j a => opv rfl rfl (by simp [go_sem, a.e 44 (d 2 rfl)]) rfl,
  fun f s W c d h i j a => opv rfl rfl (by simp [go_sem, a.e 43 (d 1 rfl), a.e 45 (d 3 rfl), hq3]) rfl,
  fun f s W c d h i j a => by have k := bwt fB48 c; have u_ : W.cell? ⟨q3, o3 + 1, none⟩ = some (.int .i64 (u1)) := (k.cell (p := ⟨q3, o3 + 1, none⟩) hql3).trans (hqc3 1 (by simp)); exact opv rfl rfl (by simp [go_sem, a.e 46 (d 4 rfl), u_]) rfl,
  fun f s W c d h i j a => opm (a.v 47 (d 5 rfl)), trivial⟩ ?_
 intro f49 s49 W49 hB49 g49 hg49 z49
 have k49_7 := kt hg49 7 k48_7
 refine wp_seq_k fun K59 hK59 => ?_
 refine rw_ 2 [(48, 0), (49, 1)] [[], [0]] (rel [iI 3, iB false])
  ⟨fun f s W c d h i j a => opm (a.v 7 k49_7),
  fun f s W c d h i j a => opv rfl rfl (by simp [go_sem, a.e 48 (d 0 rfl)]) rfl, trivial⟩ ?_
 intro f50 s50 W50 hB50 g50 hg50 z50
 have b50_2 := hB50.b (hB49.b (hB48.b (hB47.b nb46)))
 have k50_5 := kt hg50 5 (kt hg49 5 (kt hg48 5 (kt hg47 5 (kt hg45 5 k44_5))))
 have k50_7 := kt hg50 7 k49_7
 have k50_8 := kt hg50 8 (kt hg49 8 (hB49.is 6))
 have k50_49 := kt hg50 49 (hB50.is 1)
 refine wp_cond_false ((fr_eval rfl).trans k50_49) ?_
 refine wp_skip ?_
 refine hK59 _ _ ?_
 refine ry 11 [(56, 0), (57, 1), (58, 2), (59, 3), (60, 4), (61, 5), (62, 6), (63, 7), (64, 8), (65, 9), (66, 10)] [[], [0], [], [2], [3], [4], [5], [], [7], [6, 8], [1], [0, 1, 2, 3, 4, 5, 6, 7, 8, 9, 10]] (rel [iI 3, iI 8, iI 3, iI 1, iI 0, is (.pointer (some ⟨(s2 1), 0, none⟩)), iI ((1000 * p0) - cal), iI u1, iI (2000 * u1), iI (((1000 * p0) - cal) - (2000 * u1)), is (.pointer (some ⟨(s2 1), 8, none⟩))])
  ⟨fun f s W c d h i j a => opm (a.v 7 k50_7),
  fun f s W c d h i j a => opv rfl rfl (by simp [go_sem, a.e 56 (d 0 rfl), IntWalk.i64_in (8) (by omega)]) rfl,
  fun f s W c d h i j a => opm (a.v 7 k50_7),
  fun f s W c d h i j a => opv rfl rfl (by simp [go_sem, a.e 58 (d 2 rfl)]) rfl,
  fun f s W c d h i j a => opv rfl rfl (by simp [go_sem, a.e 59 (d 3 rfl), IntWalk.i64_in (0) (by omega)]) rfl,
  fun f s W c d h i j a => opv rfl rfl (by simp [go_sem, a.e 5 k50_5, a.e 60 (d 4 rfl)]) rfl,
  fun f s W c d h i j a => opv rfl rfl (by simp [go_sem, a.e 61 (d 5 rfl), cb b50_2 c 0]) rfl,
  fun f s W c d h i j a => opm (a.v 8 k50_8),
  fun f s W c d h i j a => opv rfl rfl (by simp [go_sem, a.e 63 (d 7 rfl), IntWalk.i64_in (2000 * u1) (by omega)]) rfl,
  fun f s W c d h i j a => opv rfl rfl (by simp [go_sem, a.e 62 (d 6 rfl), a.e 64 (d 8 rfl), IntWalk.i64_in (((1000 * p0) - cal) - (2000 * u1)) (by omega)]) rfl,
  fun f s W c d h i j a => opv rfl rfl (by simp [go_sem, a.e 5 k50_5, a.e 57 (d 1 rfl)]) rfl, trivial⟩ ?_
 intro f51 s51 W51 hB51 g51 hg51 z51
 have fB51 := hB51.f (hB50.f (hB49.f fB48))
 have b51_1 := hB51.b (hB50.b (hB49.b (hB48.b (hB47.b b46_1))))
 have b51_2 := hB51.b b50_2
 have k51_7 := kt hg51 7 k50_7
 have k51_65 := kt hg51 65 (hB51.is 9)
 have k51_66 := kt hg51 66 (hB51.is 10)
 obtain ⟨W52, hW52⟩ : ∃ W', W' = W51.setRow (s2 1) #[.int .i64 ((1000 * p0) - cal), .int .i64 ((1000 * p1) - cal), .int .i64 ((1000 * p2) - cal), .int .i64 ((1000 * p3) - cal), .int .i64 hv, .int .i64 (((1000 * p1) - cal) - (2000 * t0)), .int .i64 (((1000 * p0) - cal) - (2000 * t1)), .int .i64 (((1000 * p1) - cal) - (2000 * u0)), .int .i64 (((1000 * p0) - cal) - (2000 * u1))] := ⟨_, rfl⟩
 refine tsk (o := _) rfl ⟨rfl, rfl⟩ (run_seg hW52 (fr_ev k51_66) (fr_ev k51_65) b51_2 rfl rfl rfl rfl) ?_
 obtain ⟨fB52, nb52, ot52, z52⟩ := sgf hW52 fB51 b51_2 (by omega)
 clear hW52
 have b52_1 := ot52 _ _ (by omega) b51_1
 refine wpe ?_
 refine ibn ?_
 refine hK57 _ _ ?_
 refine ry 3 [(40, 0), (41, 1), (7, 2)] [[], [0], [0, 1]] (rel [iI 3, iI 4, iI 4])
  ⟨fun f s W c d h i j a => opm (a.v 7 ((i 2 7 rfl rfl).trans k51_7)),
  fun f s W c d h i j a => opv rfl rfl (by simp [go_sem, a.e 40 (d 0 rfl), IntWalk.i64_in (4) (by omega)]) rfl,
  fun f s W c d h i j a => opm (a.v 41 (d 1 rfl)), trivial⟩ ?_
 intro f53 s53 W53 hB53 g53 hg53 z53
 refine wpe ?_
 have k53_7 := kt hg53 7 (hB53.is 2)
 refine then_normal ?_
 rw [rounds_succ]
 refine wp_seq_k fun K62 hK62 => ?_
 refine rw_ 2 [(38, 0), (39, 1)] [[], [0]] (rel [iI 4, iB false])
  ⟨fun f s W c d h i j a => opm (a.v 7 k53_7),
  fun f s W c d h i j a => opv rfl rfl (by simp [go_sem, a.e 38 (d 0 rfl)]) rfl, trivial⟩ ?_
 intro f54 s54 W54 hB54 g54 hg54 z54
 have b54_2 := hB54.b (hB53.b nb52)
 have k54_5 := kt hg54 5 (kt hg53 5 (kt hg51 5 k50_5))
 have k54_39 := kt hg54 39 (hB54.is 1)
 refine wp_cond_false ((fr_eval rfl).trans k54_39) ?_
 refine wp_exit ?_
 refine then_exit ?_
 refine then_exit ?_
 refine inBlock_at ?_
 refine hK28 _ _ ?_
 refine wp_seq_k fun K65 hK65 => ?_
 refine ry 1 [(67, 0)] [[], [0]] (rel [is (.agg #[.int .i64 ((1000 * p0) - cal), .int .i64 ((1000 * p1) - cal), .int .i64 ((1000 * p2) - cal), .int .i64 ((1000 * p3) - cal), .int .i64 hv, .int .i64 (((1000 * p1) - cal) - (2000 * t0)), .int .i64 (((1000 * p0) - cal) - (2000 * t1)), .int .i64 (((1000 * p1) - cal) - (2000 * u0)), .int .i64 (((1000 * p0) - cal) - (2000 * u1))])])
  ⟨fun f s W c d h i j a => opv rfl rfl (by simp [go_sem, a.e 5 k54_5, cb b54_2 c 0, cb b54_2 c 1, cb b54_2 c 2, cb b54_2 c 3, cb b54_2 c 4, cb b54_2 c 5, cb b54_2 c 6, cb b54_2 c 7, cb b54_2 c 8]) rfl, trivial⟩ ?_
 intro f55 s55 W55 hB55 g55 hg55 z55
 have fB55 := hB55.f (hB54.f (hB53.f fB52))
 have b55_1 := hB55.b (hB54.b (hB53.b b52_1))
 have k55_4 := kt hg55 4 (kt hg54 4 (kt hg53 4 (kt hg51 4 (kt hg50 4 (kt hg49 4 (kt hg48 4 (kt hg47 4 (kt hg45 4 (kt hg44 4 (kt hg43 4 (kt hg42 4 (kt hg41 4 (kt hg39 4 (kt hg38 4 (kt hg37 4 (kt hg36 4 (kt hg35 4 (kt hg34 4 (kt hg32 4 (kt hg31 4 (kt hg30 4 (kt hg29 4 (kt hg28 4 (kt hg27 4 k_2_4))))))))))))))))))))))))
 have k55_67 := kt hg55 67 (hB55.is 0)
 obtain ⟨W56, hW56⟩ : ∃ W', W' = W55.setRow (s1 1) #[.int .i64 ((1000 * p0) - cal), .int .i64 ((1000 * p1) - cal), .int .i64 ((1000 * p2) - cal), .int .i64 ((1000 * p3) - cal), .int .i64 hv, .int .i64 (((1000 * p1) - cal) - (2000 * t0)), .int .i64 (((1000 * p0) - cal) - (2000 * t1)), .int .i64 (((1000 * p1) - cal) - (2000 * u0)), .int .i64 (((1000 * p0) - cal) - (2000 * u1))] := ⟨_, rfl⟩
 refine tsk (o := _) rfl ⟨rfl, rfl⟩ (run_seg hW56 (fr_ev k55_4) (fr_ev k55_67) b55_1 rfl rfl rfl rfl) ?_
 obtain ⟨fB56, nb56, ot56, z56⟩ := sgf hW56 fB55 b55_1 (by omega)
 clear hW56
 refine wpe ?_
 refine hK65 _ _ ?_
 refine wp_ret ?_
 refine leave_gen (v := .agg #[.int .i64 ((1000 * p0) - cal), .int .i64 ((1000 * p1) - cal), .int .i64 ((1000 * p2) - cal), .int .i64 ((1000 * p3) - cal), .int .i64 hv, .int .i64 (((1000 * p1) - cal) - (2000 * t0)), .int .i64 (((1000 * p0) - cal) - (2000 * t1)), .int .i64 (((1000 * p1) - cal) - (2000 * u0)), .int .i64 (((1000 * p0) - cal) - (2000 * u1))]) (.inr rfl) (by simp [results, Tryz.results37, go_sem, frv 68 k55_4, cl nb56 0, cl nb56 1, cl nb56 2, cl nb56 3, cl nb56 4, cl nb56 5, cl nb56 6, cl nb56 7, cl nb56 8]) ?_
 subst jp_0
 exact ⟨rfl, fB56⟩
end Go.Proofs.YthnediamopehfaaGreat
