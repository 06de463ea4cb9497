/- Part of the proof: what the claim leans on. -/
import Derived.Test.YtcgccflcjejlhaaVBB
import Derived.Test.YtcgccflcjejlhaaVAW
import Derived.Test.YtcgccflcjejlhaaVBC
set_option maxHeartbeats 8000000
set_option maxRecDepth 100000
set_option linter.unusedSimpArgs false
set_option linter.unusedVariables false
namespace Go.Proofs.Ytcgccflcjejlhaa
open Go.RowKit
theorem arm_stand (nu de tb : Int) (ap : Option Addr) (np cp n5 : Nat) (pv : Nat → Nat → Int) (w : World) (hR : RowsB w ap np 2 pv) (ht : 0 ≤ tb ∧ tb ≤ 255) (hp : ∀ i j, 0 ≤ pv i j ∧ pv i j ≤ 255) (hn5 : n5 = min np 5) :
  Calls Try.prog 16 #[.agg #[.int .u8 tb, .slice ap np cp], .agg #[.int .i64 nu, .int .i64 de]] w (fun e w' => ∃ v, e = .returned v ∧ IsStd nu de (tb % 50) n5 (stS tb pv) v w' ∧ Below w.heap.size w w') := by
 obtain ⟨bp, op, hRp_⟩ := hR.at'
 refine calls_fr Try.func16 Try.ntmps16 rfl rfl fun g hg => ?_
 have k0 : g 0 = .agg #[.int .u8 tb, .slice ap np cp] := hg 0
 have k1 : g 1 = .agg #[.int .i64 nu, .int .i64 de] := hg 1
 clear hg
 have fB0 : Below w.heap.size w w := Below.refl _ _
 refine rw_ 3 [(2, 0), (3, 1), (4, 2)] [[], [], []] (rel [bx 0 #[.int .u8 tb, .slice ap np cp] 57, bx 1 #[.int .i64 nu, .int .i64 de] 78, bx 2 #[.int .i64 0, .int .i64 0, .int .i64 0, .slice none 0 0] 80])
  ⟨fun f s W h l m n p a => opb rfl rfl (by simp [go_sem, a.e 0 k0]),
  fun f s W h l m n p a => opb rfl rfl (by simp [go_sem, a.e 1 k1]),
  fun f s W h l m n p a => opb rfl rfl (by simp [go_sem]), trivial⟩ ?_
 intro f1 s1 W1 hB1 g1 hg1 z1
 obtain ⟨r1_0, br1_0⟩ := hB1.is 0
 have lr1_0 := hB1.lr 0 br1_0
 obtain ⟨r1_1, br1_1⟩ := hB1.is 1
 have lr1_1 := hB1.lr 1 br1_1
 obtain ⟨r1_2, br1_2⟩ := hB1.is 2
 have lr1_2 := hB1.lr 2 br1_2
 have ne1_0_1 := hB1.nb 0 1
 have ne1_0_2 := hB1.nb 0 2
 have ne1_1_2 := hB1.nb 1 2
 have k1_2 := kt hg1 2 r1_0
 have k1_3 := kt hg1 3 r1_1
 refine wp_seq_k fun K2 hK2 => ?_
 refine ry 7 [(8, 0), (9, 1), (10, 2), (11, 3), (12, 4), (13, 5), (5, 6)] [[], [], [1], [2], [3], [0, 4], [], [0, 1, 2, 3, 4, 5, 6]] (rel [is (.agg #[.int .i64 nu, .int .i64 de]), is (.pointer (some ⟨(s1 0), 0, none⟩)), is (.int .u8 tb), iI tb, iI (tb % 50), is (.agg #[.int .i64 nu, .int .i64 de, .int .i64 (tb % 50), .slice none 0 0]), bx 6 #[.int .i64 0, .int .i64 0, .int .i64 0, .slice none 0 0] 80])
  ⟨fun f s W h l m n p a => opv rfl rfl (by simp [go_sem, a.e 3 k1_3, cb br1_1 h 0, cb br1_1 h 1]) rfl,
  fun f s W h l m n p a => opv rfl rfl (by simp [go_sem, a.e 2 k1_2]) rfl,
  fun f s W h l m n p a => opv rfl rfl (by simp [go_sem, a.e 9 (l 1 rfl), cb br1_0 h 0]) rfl,
  fun f s W h l m n p a => by have cv_ := IntWalk.i64_in (tb) (by omega); exact opv rfl rfl (by simp [go_sem, a.e 10 (l 2 rfl), cv_]) rfl,
  fun f s W h l m n p a => by have qu_ : (tb).tmod 50 = tb % 50 := Int.tmod_eq_emod_of_nonneg (by omega); have qw_ := IntWalk.i64_in (tb % 50) (by omega); exact opv rfl rfl (by simp [go_sem, a.e 11 (l 3 rfl), qu_, qw_]) rfl,
  fun f s W h l m n p a => opv rfl rfl (by simp [go_sem, a.e 8 (l 0 rfl), a.e 12 (l 4 rfl)]) rfl,
  fun f s W h l m n p a => opb rfl rfl (by simp [go_sem]), trivial⟩ ?_
 intro f2 s2 W2 hB2 g2 hg2 z2
 have fB2 := hB2.f (hB1.f fB0)
 have b2_0 := hB2.b br1_0
 have b2_1 := hB2.b br1_1
 have b2_2 := hB2.b br1_2
 obtain ⟨r2_6, br2_6⟩ := hB2.is 6
 have lr2_6 := hB2.lr 6 br2_6
 have k2_13 := kt hg2 13 (hB2.is 5)
 have k2_5 := kt hg2 5 r2_6
 obtain ⟨W3, hW3⟩ : ∃ W', W' = W2.setRow (s2 6) #[.int .i64 nu, .int .i64 de, .int .i64 (tb % 50), .slice none 0 0] := ⟨_, rfl⟩
 refine tsk (o := _) rfl ⟨rfl, rfl⟩ (run_seg hW3 (fr_ev k2_5) (fr_ev k2_13) br2_6 rfl rfl rfl rfl) ?_
 obtain ⟨fB3, nb3, ot3, z3⟩ := sgf hW3 fB2 br2_6 (by omega)
 clear hW3
 have b3_0 := ot3 _ _ (by omega) b2_0
 have b3_1 := ot3 _ _ (by omega) b2_1
 have b3_2 := ot3 _ _ (by omega) b2_2
 refine wpe ?_
 refine hK2 _ _ ?_
 have on0 : OwnN 43 2 w.heap.size 0 (rowC (spC (stS tb pv)) 0) none 0 W3 := ownN_nil
 refine wp_seq_k fun K3 hK3 => ?_
 refine rw_ 1 [(6, 0)] [[]] (rel [iI 0])
  ⟨fun f s W h l m n p a => opz, trivial⟩ ?_
 intro f4 s4 W4 hB4 g4 hg4 z4
 have fB4 := hB4.f fB3
 have b4_0 := hB4.b b3_0
 have b4_1 := hB4.b b3_1
 have b4_2 := hB4.b b3_2
 have b4_3 := hB4.b nb3
 have q14' := (on0.below hB4.below)
 have k4_2 := kt hg4 2 (kt hg2 2 k1_2)
 have k4_4 := kt hg4 4 (kt hg2 4 (kt hg1 4 r1_2))
 have k4_5 := kt hg4 5 k2_5
 have k4_6 := kt hg4 6 (hB4.is 0)
 refine wp_block ?_
 refine wp_loop_n (fun m_ a_ W_ => ∃ g_ : Nat → Value, a_ = fr 55 g_ ∧ (∃ k : Nat, ∃ aq : Option Addr, ∃ cq : Nat, m_ = np - k ∧ g_ 2 = .pointer (some ⟨(s1 0), 0, none⟩) ∧ g_ 4 = .pointer (some ⟨(s1 2), 0, none⟩) ∧ g_ 5 = .pointer (some ⟨(s2 6), 0, none⟩) ∧ g_ 6 = .int .i64 ((k : Int)) ∧ Below w.heap.size w W_ ∧ W4.heap.size ≤ W_.heap.size ∧ W_.heap[(s1 0)]? = some (.cells #[.int .u8 tb, .slice ap np cp] 57 (0, 0)) ∧ W_.heap[(s1 1)]? = some (.cells #[.int .i64 nu, .int .i64 de] 78 (0, 0)) ∧ W_.heap[(s1 2)]? = some (.cells #[.int .i64 0, .int .i64 0, .int .i64 0, .slice none 0 0] 80 (0, 0)) ∧ W_.heap[(s2 6)]? = some (.cells #[.int .i64 nu, .int .i64 de, .int .i64 (tb % 50), .slice aq k cq] 80 (0, 0)) ∧ OwnN 43 2 w.heap.size k (rowC (spC (stS tb pv)) k) aq cq W_ ∧ (k ≤ n5))) ⟨_, g4, rfl, 0, none, 0, rfl, k4_2, k4_4, k4_5, k4_6.trans (by rfl), fB4, Nat.le_refl _, b4_0, b4_1, b4_2, b4_3, q14', (by omega)⟩ ?_
 rintro _ _ W_15 ⟨g_15, rfl, k, aq, cq, rfl, k_15_2, k_15_4, k_15_5, k_15_6, fB_15, z_15, b_15_0, b_15_1, b_15_2, m_15_0, q16', lk0⟩
 have hp0_ := hp k 0
 have hp1_ := hp k 1
 refine wp_seq_k fun K5 hK5 => ?_
 refine rw_ 9 [(14, 0), (15, 1), (16, 2), (17, 3), (18, 4), (19, 5), (20, 6), (21, 7), (22, 8)] [[], [], [1], [2], [0, 3], [4], [5], [5, 6], [5, 7]] (rel [iI ((k : Int)), is (.pointer (some ⟨(s1 0), 1, none⟩)), is (.slice ap np cp), iI ((np : Int)), iB (decide ((k : Int) < (np : Int))), iB (decide ((k : Int) < (np : Int))), gd (decide ((k : Int) < (np : Int))) true (iI ((k : Int))), gd (decide ((k : Int) < (np : Int))) true (iB (decide ((k : Int) < 5))), iB ((decide ((k : Int) < (np : Int))) && (decide ((k : Int) < 5)))])
  ⟨fun f s W h l m n p a => opm (a.v 6 k_15_6),
  fun f s W h l m n p a => opv rfl rfl (by simp [go_sem, a.e 2 k_15_2]) rfl,
  fun f s W h l m n p a => opv rfl rfl (by simp [go_sem, a.e 15 (l 1 rfl), cb b_15_0 h 1]) rfl,
  fun f s W h l m n p a => opv rfl rfl (by simp [go_sem, a.e 16 (l 2 rfl)]) rfl,
  fun f s W h l m n p a => opv rfl rfl (by simp [go_sem, a.e 14 (l 0 rfl), a.e 17 (l 3 rfl)]) rfl,
  fun f s W h l m n p a => opm (a.v 18 (l 4 rfl)),
  fun f s W h l m n p a => gdo rfl rfl (a.says (d := 19) rfl rfl (l 5 rfl)) fun hgd0 => gv (by simp [go_sem, a.e 6 k_15_6]) rfl,
  fun f s W h l m n p a => gdo rfl rfl (a.says (d := 19) rfl rfl (l 5 rfl)) fun hgd0 => gv (by simp [go_sem, a.e 20 ((l 6 rfl).1 hgd0)]) rfl,
  fun f s W h l m n p a => opk (c := decide ((k : Int) < (np : Int))) rfl rfl (fun hpk => by first | (simp [go_sem, hpk, a.e 19 (l 5 rfl)]; done) | (have hpk' := hpk; simp at hpk'; simp [go_sem, hpk', hpk, a.e 19 (l 5 rfl)]; done) | (have hpk' := of_decide_eq_false hpk; simp only [Int.ofNat_lt] at hpk'; simp [go_sem, hpk', hpk, a.e 19 (l 5 rfl)])) (fun hpk => by first | (simp [go_sem, hpk, a.e 19 (l 5 rfl), a.e 21 ((l 7 rfl).1 hpk)]; done) | (have hpk' := hpk; simp at hpk'; simp [go_sem, hpk', hpk, a.e 19 (l 5 rfl), a.e 21 ((l 7 rfl).1 hpk)]; done) | (have hpk' := of_decide_eq_false hpk; simp only [Int.ofNat_lt] at hpk'; simp [go_sem, hpk', hpk, a.e 19 (l 5 rfl), a.e 21 ((l 7 rfl).1 hpk)])), trivial⟩ ?_
 intro f5 s5 W5 hB5 g5 hg5 z5
 have fB5 := hB5.f fB_15
 have b5_0 := hB5.b b_15_0
 have b5_2 := hB5.b b_15_2
 have b5_3 := hB5.b m_15_0
 have q17' := (q16'.below hB5.below)
 have k5_2 := kt hg5 2 k_15_2
 have k5_4 := kt hg5 4 k_15_4
 have k5_5 := kt hg5 5 k_15_5
 have k5_6 := kt hg5 6 k_15_6
 have k5_22 := kt hg5 22 (hB5.is 8)
 refine wp_cond_split (t := (decide ((k : Int) < (np : Int))) && (decide ((k : Int) < 5))) ((fr_eval rfl).trans k5_22) (fun hc7 => ?_) (fun hc7 => ?_)
 ·
  have hc7' := hc7; try simp only [ba] at hc7'
  have hkn : k < np := by omega
  have hk5 : k < 5 := by omega
  refine wp_skip ?_
  refine hK5 _ _ ?_
  refine wp_seq_k fun K8 hK8 => ?_
  refine wp_block ?_
  refine rw_ 13 [(25, 0), (26, 1), (27, 2), (28, 3), (29, 4), (30, 5), (31, 6), (32, 7), (33, 8), (34, 9), (35, 10), (36, 11), (7, 12)] [[], [0], [1], [], [3], [], [4, 5], [6], [7], [8], [9], [2, 10], [11]] (rel [is (.pointer (some ⟨(s2 6), 2, none⟩)), iI (tb % 50), iI ((tb % 50) + 1), is (.pointer (some ⟨(s1 0), 1, none⟩)), is (.slice ap np cp), iI ((k : Int)), is (.pointer (some ⟨bp, op + k * 2, none⟩)), is (.pointer (some ⟨bp, op + k * 2, none⟩)), is (.int .u8 ((pv k 0))), iI ((pv k 0)), iI (10 * (pv k 0)), iI (((tb % 50) + 1) + (10 * (pv k 0))), iI (((tb % 50) + 1) + (10 * (pv k 0)))])
   ⟨fun f s W h l m n p a => opv rfl rfl (by simp [go_sem, a.e 5 k5_5]) rfl,
  fun f s W h l m n p a => opv rfl rfl (by simp [go_sem, a.e 25 (l 0 rfl), cb b5_3 h 2]) rfl,
  fun f s W h l m n p a => opv rfl rfl (by simp [go_sem, a.e 26 (l 1 rfl), IntWalk.i64_in ((tb % 50) + 1) (by omega)]) rfl,
  fun f s W h l m n p a => opv rfl rfl (by simp [go_sem, a.e 2 k5_2]) rfl,
  fun f s W h l m n p a => opv rfl rfl (by simp [go_sem, a.e 28 (l 3 rfl), cb b5_0 h 1]) rfl,
  fun f s W h l m n p a => opm (a.v 6 k5_6),
  fun f s W h l m n p a => by have hab := (hRp_ (by omega)).1; have li_ := Nat.not_le.2 (show k < np by omega); have li2_ : (k : Int) < (np : Int) := (by omega); exact opv rfl rfl (by simp [go_sem, a.e 29 (l 4 rfl), a.e 30 (l 5 rfl), hab, li_, li2_]) rfl,
  fun f s W h l m n p a => opv rfl rfl (by simp [go_sem, a.e 31 (l 6 rfl)]) rfl,
  fun f s W h l m n p a => by have q := bwt fB5 h; have cu_ : W.cell? ⟨bp, op + k * 2, none⟩ = some (.int .u8 (pv k 0)) := (hRp_ (by omega)).2 W q k 0 (by omega) (by decide); exact opv rfl rfl (by simp [go_sem, a.e 32 (l 7 rfl), cu_]) rfl,
  fun f s W h l m n p a => by have cv_ := IntWalk.i64_in ((pv k 0)) (by omega); exact opv rfl rfl (by simp [go_sem, a.e 33 (l 8 rfl), cv_]) rfl,
  fun f s W h l m n p a => opv rfl rfl (by simp [go_sem, a.e 34 (l 9 rfl), IntWalk.i64_in (10 * (pv k 0)) (by omega)]) rfl,
  fun f s W h l m n p a => opv rfl rfl (by simp [go_sem, a.e 27 (l 2 rfl), a.e 35 (l 10 rfl), IntWalk.i64_in (((tb % 50) + 1) + (10 * (pv k 0))) (by omega)]) rfl,
  fun f s W h l m n p a => opm (a.v 36 (l 11 rfl)), trivial⟩ ?_
  intro f6 s6 W6 hB6 g6 hg6 z6
  have fB6 := hB6.f fB5
  have b6_0 := hB6.b b5_0
  have b6_3 := hB6.b b5_3
  have q18' := (q17'.below hB6.below)
  have k6_2 := kt hg6 2 k5_2
  have k6_5 := kt hg6 5 k5_5
  have k6_6 := kt hg6 6 k5_6
  have k6_7 := kt hg6 7 (hB6.is 12)
  refine ry 15 [(37, 0), (38, 1), (39, 2), (40, 3), (41, 4), (42, 5), (43, 6), (44, 7), (45, 8), (46, 9), (47, 10), (48, 11), (49, 12), (50, 13), (51, 14), (52, 15), (53, 16)] [[], [0], [], [], [], [4], [], [4, 5, 6], [4, 5, 6, 7], [4, 5, 6, 7, 8], [4, 5, 6, 7, 8, 9], [4, 5, 6, 7, 8, 9, 10], [3, 4, 5, 6, 7, 8, 9, 10, 11], [2, 3, 4, 5, 6, 7, 8, 9, 10, 11, 12], [3, 4, 5, 6, 7, 8, 9, 10, 11, 13], [0, 1, 2, 3, 4, 5, 6, 7, 8, 9, 10, 11, 12, 13, 14], [0, 1, 2, 3, 4, 5, 6, 7, 8, 9, 10, 11, 12, 13, 14, 15], [0, 1, 2, 3, 4, 5, 6, 7, 8, 9, 10, 11, 12, 13, 14, 15, 16]] (rel [is (.pointer (some ⟨(s2 6), 3, none⟩)), is (.slice aq k cq), iI (((tb % 50) + 1) + (10 * (pv k 0))), iI (((tb % 50) + 1) + (10 * (pv k 0))), is (.pointer (some ⟨(s1 0), 1, none⟩)), is (.slice ap np cp), iI ((k : Int)), is (.pointer (some ⟨bp, op + k * 2, none⟩)), is (.pointer (some ⟨bp, op + k * 2 + 1, none⟩)), is (.int .u8 ((pv k 1))), iI ((pv k 1)), iI ((pv k 1) % 40), iI ((((tb % 50) + 1) + (10 * (pv k 0))) + ((pv k 1) % 40)), is (.agg #[.int .i64 (((tb % 50) + 1) + (10 * (pv k 0))), .int .i64 ((((tb % 50) + 1) + (10 * (pv k 0))) + ((pv k 1) % 40))]), row 14 1 #[.int .i64 (((tb % 50) + 1) + (10 * (pv k 0))), .int .i64 ((((tb % 50) + 1) + (10 * (pv k 0))) + ((pv k 1) % 40))] 43])
   ⟨fun f s W h l m n p a => opv rfl rfl (by simp [go_sem, a.e 5 k6_5]) rfl,
  fun f s W h l m n p a => opv rfl rfl (by simp [go_sem, a.e 37 (l 0 rfl), cb b6_3 h 3]) rfl,
  fun f s W h l m n p a => opm (a.v 7 k6_7),
  fun f s W h l m n p a => opm (a.v 7 k6_7),
  fun f s W h l m n p a => opv rfl rfl (by simp [go_sem, a.e 2 k6_2]) rfl,
  fun f s W h l m n p a => opv rfl rfl (by simp [go_sem, a.e 41 (l 4 rfl), cb b6_0 h 1]) rfl,
  fun f s W h l m n p a => opm (a.v 6 k6_6),
  fun f s W h l m n p a => by have hab := (hRp_ (by omega)).1; have li_ := Nat.not_le.2 (show k < np by omega); have li2_ : (k : Int) < (np : Int) := (by omega); exact opv rfl rfl (by simp [go_sem, a.e 42 (l 5 rfl), a.e 43 (l 6 rfl), hab, li_, li2_]) rfl,
  fun f s W h l m n p a => opv rfl rfl (by simp [go_sem, a.e 44 (l 7 rfl)]) rfl,
  fun f s W h l m n p a => by have q := bwt fB6 h; have cu_ : W.cell? ⟨bp, op + k * 2 + 1, none⟩ = some (.int .u8 (pv k 1)) := (hRp_ (by omega)).2 W q k 1 (by omega) (by decide); exact opv rfl rfl (by simp [go_sem, a.e 45 (l 8 rfl), cu_]) rfl,
  fun f s W h l m n p a => by have cv_ := IntWalk.i64_in ((pv k 1)) (by omega); exact opv rfl rfl (by simp [go_sem, a.e 46 (l 9 rfl), cv_]) rfl,
  fun f s W h l m n p a => by have qu_ : ((pv k 1)).tmod 40 = (pv k 1) % 40 := Int.tmod_eq_emod_of_nonneg (by omega); have qw_ := IntWalk.i64_in ((pv k 1) % 40) (by omega); exact opv rfl rfl (by simp [go_sem, a.e 47 (l 10 rfl), qu_, qw_]) rfl,
  fun f s W h l m n p a => opv rfl rfl (by simp [go_sem, a.e 40 (l 3 rfl), a.e 48 (l 11 rfl), IntWalk.i64_in ((((tb % 50) + 1) + (10 * (pv k 0))) + ((pv k 1) % 40)) (by omega)]) rfl,
  fun f s W h l m n p a => opc rfl rfl (by simp [go_sem, a.e 39 (l 2 rfl), a.e 49 (l 12 rfl)]) (arm_spanR (((tb % 50) + 1) + (10 * (pv k 0))) ((((tb % 50) + 1) + (10 * (pv k 0))) + ((pv k 1) % 40)) W),
  fun f s W h l m n p a => opr rfl rfl (by simp [go_sem, a.e 50 (l 13 rfl)]), trivial⟩ ?_
  intro f7 s7 W7 hB7 g7 hg7 z7
  have fB7 := hB7.f fB6
  have b7_0 := hB7.b b6_0
  have b7_1 := hB7.b (hB6.b (hB5.b b_15_1))
  have b7_2 := hB7.b (hB6.b b5_2)
  have b7_3 := hB7.b b6_3
  have q19' := (q18'.below hB7.below)
  obtain ⟨r7_14, br7_14⟩ := hB7.is 14
  have lr7_14 := hB7.lr 14 br7_14
  have k7_38 := kt hg7 38 (hB7.is 1)
  have k7_51 := kt hg7 51 r7_14
  obtain ⟨ga8, ca8, W8, ra8, ow8, ot8, z8, gg8, fB8⟩ := growN_tail 45 45 43 2 16 _ (by kernel_rfl) infoSp rfl (rowC (spC (stS tb pv)) (k + 1)) (k + 1) (off := 0) (k := 1) (c' := 1) [.int .i64 (((tb % 50) + 1) + (10 * (pv k 0))), .int .i64 ((((tb % 50) + 1) + (10 * (pv k 0))) + ((pv k 1) % 40))] fB7 q19' rfl rfl rfl rfl (cells_at br7_14) (by omega)
  refine tail_value2 (o := _) rfl rfl rfl (run_appendOp (fr_ev k7_38) (fr_ev k7_51) ra8) ?_
  have b8_0 := ot8 _ _ (ownN_ne q19' b7_0 (by decide)) b7_0
  have b8_1 := ot8 _ _ (ownN_ne q19' b7_1 (by decide)) b7_1
  have b8_2 := ot8 _ _ (ownN_ne q19' b7_2 (by decide)) b7_2
  have b8_3 := ot8 _ _ (ownN_ne q19' b7_3 (by decide)) b7_3
  have on8 : OwnN 43 2 w.heap.size (k + 1) (rowC (spC (stS tb pv)) (k + 1)) (some ⟨ga8, 0, none⟩) ca8 W8 := .inr ⟨_, rfl, ow8⟩
  generalize hg8 : upd g7 52 (.slice (some ⟨ga8, 0, none⟩) ((k + 1)) (ca8)) = g8
  have k8_5 := ku hg8 5 (kt hg7 5 k6_5)
  refine tail_value (o := _) rfl rfl rfl (v := .pointer (some ⟨(s2 6), 3, none⟩)) (by simp [go_sem, frv 55 k8_5]) ?_
  generalize hg9 : upd g8 53 (.pointer (some ⟨(s2 6), 3, none⟩)) = g9
  have k9_6 := ku hg9 6 (ku hg8 6 (kt hg7 6 k6_6))
  have k9_52 := ku hg9 52 (kt hg8 52 (upd_same _ _ _))
  have k9_53 := kt hg9 53 (upd_same _ _ _)
  obtain ⟨W10, hW10⟩ : ∃ W', W' = W8.setRow (s2 6) #[.int .i64 nu, .int .i64 de, .int .i64 (tb % 50), .slice (some ⟨ga8, 0, none⟩) ((k + 1)) (ca8)] := ⟨_, rfl⟩
  refine tsk (o := _) rfl ⟨rfl, rfl⟩ (run_seg hW10 (fr_ev k9_53) (fr_ev k9_52) b8_3 rfl rfl rfl rfl) ?_
  obtain ⟨fB10, nb10, ot10, z10⟩ := sgf hW10 fB8 b8_3 (by omega)
  clear hW10
  have b10_0 := ot10 _ _ (by omega) b8_0
  have b10_1 := ot10 _ _ (by omega) b8_1
  have b10_2 := ot10 _ _ (by omega) b8_2
  have q20' := on8.other ot10 (ownN_ne on8 b8_3 (by decide)) z10
  refine wpe ?_
  refine ibn ?_
  refine hK8 _ _ ?_
  refine ry 3 [(23, 0), (24, 1), (6, 2)] [[], [0], [0, 1]] (rel [iI ((k : Int)), iI ((k : Int) + 1), iI ((k : Int) + 1)])
   ⟨fun f s W h l m n p a => opm (a.v 6 ((n 2 6 rfl rfl).trans k9_6)),
  fun f s W h l m n p a => opv rfl rfl (by simp [go_sem, a.e 23 (l 0 rfl), IntWalk.i64_in ((k : Int) + 1) (by omega)]) rfl,
  fun f s W h l m n p a => opm (a.v 24 (l 1 rfl)), trivial⟩ ?_
  intro f11 s11 W11 hB11 g11 hg11 z11
  have fB11 := hB11.f fB10
  have b11_0 := hB11.b b10_0
  have b11_1 := hB11.b b10_1
  have b11_2 := hB11.b b10_2
  have b11_3 := hB11.b nb10
  have q21' := (q20'.below hB11.below)
  refine wpe ?_
  have k11_2 := kt hg11 2 (ku hg9 2 (ku hg8 2 (kt hg7 2 k6_2)))
  have k11_4 := kt hg11 4 (ku hg9 4 (ku hg8 4 (kt hg7 4 (kt hg6 4 k5_4))))
  have k11_5 := kt hg11 5 (ku hg9 5 k8_5)
  have k11_6 := kt hg11 6 (hB11.is 2)
  refine then_normal ?_
  exact ⟨_, by omega, g11, rfl, k + 1, (some ⟨ga8, 0, none⟩), ca8, rfl, k11_2, k11_4, k11_5, k11_6.trans (by go_num), fB11, (by omega), b11_0, b11_1, b11_2, b11_3, q21', (by omega)⟩
 ·
  have hc7' := hc7; try simp only [ba] at hc7'
  have hke : n5 = k := by omega
  refine wp_exit ?_
  refine then_exit ?_
  refine then_exit ?_
  refine inBlock_at ?_
  refine hK3 _ _ ?_
  refine wp_seq_k fun K10 hK10 => ?_
  refine ry 1 [(54, 0)] [[], [0]] (rel [is (.agg #[.int .i64 nu, .int .i64 de, .int .i64 (tb % 50), .slice aq k cq])])
   ⟨fun f s W h l m n p a => opv rfl rfl (by simp [go_sem, a.e 5 k5_5, cb b5_3 h 0, cb b5_3 h 1, cb b5_3 h 2, cb b5_3 h 3]) rfl, trivial⟩ ?_
  intro f12 s12 W12 hB12 g12 hg12 z12
  have fB12 := hB12.f fB5
  have b12_2 := hB12.b b5_2
  have q22' := (q17'.below hB12.below)
  have k12_4 := kt hg12 4 k5_4
  have k12_54 := kt hg12 54 (hB12.is 0)
  obtain ⟨W13, hW13⟩ : ∃ W', W' = W12.setRow (s1 2) #[.int .i64 nu, .int .i64 de, .int .i64 (tb % 50), .slice aq k cq] := ⟨_, rfl⟩
  refine tsk (o := _) rfl ⟨rfl, rfl⟩ (run_seg hW13 (fr_ev k12_4) (fr_ev k12_54) b12_2 rfl rfl rfl rfl) ?_
  obtain ⟨fB13, nb13, ot13, z13⟩ := sgf hW13 fB12 b12_2 (by omega)
  clear hW13
  have q23' := q22'.other ot13 (ownN_ne q22' b12_2 (by decide)) z13
  refine wpe ?_
  refine hK10 _ _ ?_
  refine wp_ret ?_
  refine leave_gen (v := .agg #[.int .i64 nu, .int .i64 de, .int .i64 (tb % 50), .slice aq k cq]) (.inr rfl) (by simp [results, Try.results16, go_sem, frv 55 k12_4, cl nb13 0, cl nb13 1, cl nb13 2, cl nb13 3]) ?_
  rw [← hke] at q23'
  rw [← hke]
  exact ⟨_, rfl, ⟨_, _, rfl, ownN_spL q23'⟩, fB13⟩
def lnF (ss : Nat → Int × Int) (nb : Nat) (bs : Nat → Int) (i : Nat) : Int := inF (ss i) (byAt nb bs i)
def lnC (ss : Nat → Int × Int) (nb : Nat) (bs : Nat → Int) (i : Nat) : List Value := [.int .i64 (lnF ss nb bs i)]
def LnL (W : World) (a : Option Addr) (n : Nat) (f : Nat → Int) : Prop := ∃ b, a = some ⟨b, 0, none⟩ ∧ b < W.heap.size ∧ ∀ i, i < n → W.cell? ⟨b, i * 1, none⟩ = some (.int .i64 (f i))
theorem LnL.below {W W' : World} {a : Option Addr} {n : Nat} {f : Nat → Int} (h : LnL W a n f) (hb : Below W.heap.size W W') : LnL W' a n f := by
  obtain ⟨b, e, h1, h2⟩ := h
  exact ⟨b, e, Nat.lt_of_lt_of_le h1 hb.size, fun i hi => (hb.cell (p := ⟨b, i * 1, none⟩) h1).trans (h2 i hi)⟩
def IsLn (n : Nat) (f : Nat → Int) (v : Value) (W : World) : Prop := ∃ a c, v = .slice a n c ∧ LnL W a n f
theorem IsLn.below {n : Nat} {f : Nat → Int} {v : Value} {W W' : World} (h : IsLn n f v W) (hb : Below W.heap.size W W') : IsLn n f v W' := by
  obtain ⟨a, c, e, h⟩ := h; exact ⟨a, c, e, h.below hb⟩
theorem ownN_lnL {B n c g : Nat} {ss : Nat → Int × Int} {nb : Nat} {bs : Nat → Int} {W : World} (h : OwnN 3 1 B n (rowC (lnC ss nb bs) n) (some ⟨g, 0, none⟩) c W) : LnL W (some ⟨g, 0, none⟩) n (lnF ss nb bs) := by
  have h := h.row
  refine ⟨g, rfl, h.2.1, fun i hi => ?_⟩
  exact h.cell (i * 1 + 0) (rowC_at (f := lnC ss nb bs) (z := 1) (fun _ => rfl) (j := 0) (by decide) n i hi)
theorem infoI1 : (Try.prog.info? 3).map (fun i => (i.zero, i.size, i.bytes)) = some (some (.int .i64 0), 1, 8) := by kernel_rfl
theorem arm_lengths (nu de tl : Int) (ss : Nat → Int × Int) (ra ta : Option Addr) (n c nb cb : Nat) (bs : Nat → Int) (w : World) (hO : SpL w ra n ss) (gn : n ≤ 100) (ho : ∀ i, i < n → 0 ≤ (ss i).1 ∧ (ss i).1 ≤ (ss i).2 ∧ (ss i).2 ≤ 10000) (hT : ByV w ta nb bs) :
  Calls Try.prog 22 #[.agg #[.int .i64 nu, .int .i64 de, .int .i64 tl, .slice ra n c], .slice ta nb cb] w (fun e w' => ∃ v, e = .returned v ∧ IsLn n (lnF ss nb bs) v w' ∧ Below w.heap.size w w') := by
 refine calls_fr Try.func22 Try.ntmps22 rfl rfl fun g hg => ?_
 have k0 : g 0 = .agg #[.int .i64 nu, .int .i64 de, .int .i64 tl, .slice ra n c] := hg 0
 have k1 : g 1 = .slice ta nb cb := hg 1
 clear hg
 have fB0 : Below w.heap.size w w := Below.refl _ _
 refine rw_ 2 [(2, 0), (4, 1)] [[], []] (rel [bx 0 #[.int .i64 nu, .int .i64 de, .int .i64 tl, .slice ra n c] 80, is (.slice none 0 0)])
  ⟨fun f s W d h j l m a => opb rfl rfl (by simp [go_sem, a.e 0 k0]),
  fun f s W d h j l m a => opv rfl rfl (by simp [go_sem]) rfl, trivial⟩ ?_
 intro f1 s1 W1 hB1 g1 hg1 z1
 obtain ⟨r1_0, br1_0⟩ := hB1.is 0
 have lr1_0 := hB1.lr 0 br1_0
 refine rx 2 [(7, 0), (5, 1)] [[], [0]] (rel [row 0 0 #[] 3, isS fun s => .slice (some ⟨(s 0), 0, none⟩) (0) (0)])
  ⟨row_k, isS_k fun s s' e => by rw [e 0 (by simp)], trivial⟩
  ⟨fun f s W d h j l m a => opr rfl rfl (by simp [go_sem]),
  fun f s W d h j l m a => opv rfl rfl (by simp [go_sem, a.e 7 (h 0 rfl).1, upd]) rfl, trivial⟩ ?_
 intro f2 s2 W2 hB2 g2 hg2 z2
 obtain ⟨r2_0, br2_0⟩ := hB2.is 0
 have lr2_0 := hB2.lr 0 br2_0
 have k2_5 := kt hg2 5 (hB2.is 1)
 obtain ⟨b0, hb0⟩ : ∃ b, (s2 0) = b := ⟨_, rfl⟩
 have on0 : OwnN 3 1 w.heap.size 0 [] (some ⟨b0, 0, none⟩) 0 W2 := .inr ⟨b0, rfl, ownR_empty (hb0 ▸ br2_0) (by rw [← hb0]; omega)⟩
 have k5_ : g2 5 = .slice (some ⟨b0, 0, none⟩) 0 0 := hb0 ▸ k2_5
 refine wp_seq_k fun K3 hK3 => ?_
 refine rw_ 1 [(6, 0)] [[]] (rel [iI 0])
  ⟨fun f s W d h j l m a => opz, trivial⟩ ?_
 intro f3 s3 W3 hB3 g3 hg3 z3
 have fB3 := hB3.f (hB2.f (hB1.f fB0))
 have b3_0 := hB3.b (hB2.b br1_0)
 have q24' := (on0.below hB3.below)
 have k3_1 := kt hg3 1 (kt hg2 1 (kt hg1 1 k1))
 have k3_2 := kt hg3 2 (kt hg2 2 (kt hg1 2 r1_0))
 have k3_4 := kt hg3 4 (kt hg2 4 (kt hg1 4 (hB1.is 1)))
 have k3_5 := kt hg3 5 k5_
 have k3_6 := kt hg3 6 (hB3.is 0)
 refine wp_block ?_
 refine wp_loop_n (fun m_ a_ W_ => ∃ g_ : Nat → Value, a_ = fr 28 g_ ∧ (∃ k : Nat, ∃ gq : Nat, ∃ cq : Nat, m_ = n - k ∧ g_ 1 = .slice ta nb cb ∧ g_ 2 = .pointer (some ⟨(s1 0), 0, none⟩) ∧ g_ 4 = .slice none 0 0 ∧ g_ 6 = .int .i64 ((k : Int)) ∧ g_ 5 = .slice (some ⟨gq, 0, none⟩) k cq ∧ Below w.heap.size w W_ ∧ W3.heap.size ≤ W_.heap.size ∧ W_.heap[(s1 0)]? = some (.cells #[.int .i64 nu, .int .i64 de, .int .i64 tl, .slice ra n c] 80 (0, 0)) ∧ OwnN 3 1 w.heap.size k (rowC (lnC ss nb bs) k) (some ⟨gq, 0, none⟩) cq W_ ∧ (k ≤ n))) ⟨_, g3, rfl, 0, b0, 0, rfl, k3_1, k3_2, k3_4, k3_6.trans (by rfl), k3_5.trans (by rfl), fB3, Nat.le_refl _, b3_0, q24', (by omega)⟩ ?_
 rintro _ _ W_25 ⟨g_25, rfl, k, gq, cq, rfl, k_25_1, k_25_2, k_25_4, k_25_6, k_25_5, fB_25, z_25, b_25_0, q26', lk0⟩
 refine wp_seq_k fun K5 hK5 => ?_
 refine rw_ 5 [(8, 0), (9, 1), (10, 2), (11, 3), (12, 4)] [[], [], [1], [2], [0, 3]] (rel [iI ((k : Int)), is (.pointer (some ⟨(s1 0), 3, none⟩)), is (.slice ra n c), iI ((n : Int)), iB (decide ((k : Int) < (n : Int)))])
  ⟨fun f s W d h j l m a => opm (a.v 6 k_25_6),
  fun f s W d h j l m a => opv rfl rfl (by simp [go_sem, a.e 2 k_25_2]) rfl,
  fun f s W d h j l m a => opv rfl rfl (by simp [go_sem, a.e 9 (h 1 rfl), cl (bwb b_25_0 d) 3]) rfl,
  fun f s W d h j l m a => opv rfl rfl (by simp [go_sem, a.e 10 (h 2 rfl)]) rfl,
  fun f s W d h j l m a => opv rfl rfl (by simp [go_sem, a.e 8 (h 0 rfl), a.e 11 (h 3 rfl)]) rfl, trivial⟩ ?_
 intro f4 s4 W4 hB4 g4 hg4 z4
 have fB4 := hB4.f fB_25
 have b4_0 := hB4.b b_25_0
 have q27' := (q26'.below hB4.below)
 have k4_1 := kt hg4 1 k_25_1
 have k4_2 := kt hg4 2 k_25_2
 have k4_6 := kt hg4 6 k_25_6
 have k4_5 := kt hg4 5 k_25_5
 have k4_12 := kt hg4 12 (hB4.is 4)
 refine wp_cond_split (t := decide ((k : Int) < (n : Int))) ((fr_eval rfl).trans k4_12) (fun hc7 => ?_) (fun hc7 => ?_)
 ·
  have hc7' := hc7; try simp only [ba] at hc7'
  have hkn : k < n := by omega
  obtain ⟨bo, oo, hra, hO'⟩ := hO.at hkn
  subst hra
  have hs_ := ho k hkn
  ·
   refine wp_skip ?_
   refine hK5 _ _ ?_
   refine wp_seq_k fun K8 hK8 => ?_
   refine wp_block ?_
   refine ry 11 [(15, 0), (16, 1), (17, 2), (18, 3), (19, 4), (20, 5), (21, 6), (22, 7), (23, 8), (24, 9), (25, 10), (26, 11), (5, 12)] [[], [], [1], [], [1, 2, 3], [1, 2, 3, 4], [], [], [6, 7], [1, 2, 3, 4, 5, 6, 7, 8], [1, 2, 3, 4, 6, 7, 9], [0, 1, 2, 3, 4, 5, 6, 7, 8, 9, 10], [0, 1, 2, 3, 4, 5, 6, 7, 8, 9, 10, 11]] (rel [is (.slice (some ⟨gq, 0, none⟩) k cq), is (.pointer (some ⟨(s1 0), 3, none⟩)), is (.slice ((some ⟨bo, oo, none⟩)) (n) (c)), iI ((k : Int)), is (.pointer (some ⟨bo, oo + k * 2, none⟩)), is (.agg #[.int .i64 ((ss k).1), .int .i64 ((ss k).2)]), is (.slice ta nb cb), iI ((k : Int)), iI ((byAt nb bs k)), iI (((ss k).1 + byAt nb bs k * ((ss k).2 - (ss k).1) / 255)), row 10 1 #[.int .i64 (((ss k).1 + byAt nb bs k * ((ss k).2 - (ss k).1) / 255))] 3])
    ⟨fun f s W d h j l m a => opm (a.v 5 ((l 12 5 rfl rfl).trans k4_5)),
  fun f s W d h j l m a => opv rfl rfl (by simp [go_sem, a.e 2 k4_2]) rfl,
  fun f s W d h j l m a => opv rfl rfl (by simp [go_sem, a.e 16 (h 1 rfl), cl (bwb b4_0 d) 3]) rfl,
  fun f s W d h j l m a => opm (a.v 6 k4_6),
  fun f s W d h j l m a => by have li_ := Nat.not_le.2 (show k < n by omega); have li2_ : (k : Int) < (n : Int) := (by omega); exact opv rfl rfl (by simp [go_sem, a.e 17 (h 2 rfl), a.e 18 (h 3 rfl), li_, li2_]) rfl,
  fun f s W d h j l m a => by have p := bwt fB4 d; have cu_ := (hO'.below p).2 k (by omega); have cu0_ := cu_.1; have cu1_ := cu_.2; exact opv rfl rfl (by simp [go_sem, a.e 19 (h 4 rfl), cu0_, cu1_]) rfl,
  fun f s W d h j l m a => opm (a.v 1 k4_1),
  fun f s W d h j l m a => opm (a.v 6 k4_6),
  fun f s W d h j l m a => by have p := bwt fB4 d; exact opc rfl rfl (by simp [go_sem, a.e 21 (h 6 rfl), a.e 22 (h 7 rfl)]) (arm_byte_any ta nb cb bs k W (hT.below p) (by omega)),
  fun f s W d h j l m a => opc (args := #[.agg #[.int .i64 ((ss k).1), .int .i64 ((ss k).2)], .int .i64 ((byAt nb bs k))]) rfl rfl (by simp [go_sem, a.e 20 (h 5 rfl), a.e 23 (h 8 rfl)]) (arm_in (ss k).1 (ss k).2 (byAt nb bs k) W hs_ (hT.at k)),
  fun f s W d h j l m a => opr rfl rfl (by simp [go_sem, a.e 24 (h 9 rfl)]), trivial⟩ ?_
   intro f5 s5 W5 hB5 g5 hg5 z5
   have fB5 := hB5.f fB4
   have b5_0 := hB5.b b4_0
   have q28' := (q27'.below hB5.below)
   obtain ⟨r5_10, br5_10⟩ := hB5.is 10
   have lr5_10 := hB5.lr 10 br5_10
   have k5_15 := kt hg5 15 (hB5.is 0)
   have k5_25 := kt hg5 25 r5_10
   obtain ⟨ga6, ca6, W6, ra6, ow6, ot6, z6, gg6, fB6⟩ := growN_tail 25 25 3 1 8 _ (by kernel_rfl) infoI1 rfl (rowC (lnC ss nb bs) (k + 1)) (k + 1) (off := 0) (k := 1) (c' := 1) [.int .i64 (((ss k).1 + byAt nb bs k * ((ss k).2 - (ss k).1) / 255))] fB5 q28' rfl rfl rfl rfl (cells_at br5_10) (by omega)
   refine tail_value2 (o := _) rfl rfl rfl (run_appendOp (fr_ev k5_15) (fr_ev k5_25) ra6) ?_
   have b6_0 := ot6 _ _ (ownN_ne q28' b5_0 (by decide)) b5_0
   have on6 : OwnN 3 1 w.heap.size (k + 1) (rowC (lnC ss nb bs) (k + 1)) (some ⟨ga6, 0, none⟩) ca6 W6 := .inr ⟨_, rfl, ow6⟩
   generalize hg6 : upd g5 26 (.slice (some ⟨ga6, 0, none⟩) ((k + 1)) (ca6)) = g6
   have k6_26 := kt hg6 26 (upd_same _ _ _)
   refine tail_value (o := _) rfl rfl rfl (v := .slice (some ⟨ga6, 0, none⟩) ((k + 1)) (ca6)) (by simp [go_sem, frv 28 k6_26]) ?_
   generalize hg7 : upd g6 5 (.slice (some ⟨ga6, 0, none⟩) ((k + 1)) (ca6)) = g7
   have k7_1 := ku hg7 1 (ku hg6 1 (kt hg5 1 k4_1))
   have k7_2 := ku hg7 2 (ku hg6 2 (kt hg5 2 k4_2))
   have k7_4 := ku hg7 4 (ku hg6 4 (kt hg5 4 (kt hg4 4 k_25_4)))
   have k7_6 := ku hg7 6 (ku hg6 6 (kt hg5 6 k4_6))
   have k7_5 := kt hg7 5 (upd_same _ _ _)
   refine wpe ?_
   refine ibn ?_
   refine hK8 _ _ ?_
   refine ry 3 [(13, 0), (14, 1), (6, 2)] [[], [0], [0, 1]] (rel [iI ((k : Int)), iI ((k : Int) + 1), iI ((k : Int) + 1)])
    ⟨fun f s W d h j l m a => opm (a.v 6 ((l 2 6 rfl rfl).trans k7_6)),
  fun f s W d h j l m a => opv rfl rfl (by simp [go_sem, a.e 13 (h 0 rfl), IntWalk.i64_in ((k : Int) + 1) (by omega)]) rfl,
  fun f s W d h j l m a => opm (a.v 14 (h 1 rfl)), trivial⟩ ?_
   intro f8 s8 W8 hB8 g8 hg8 z8
   have fB8 := hB8.f fB6
   have b8_0 := hB8.b b6_0
   have q29' := (on6.below hB8.below)
   refine wpe ?_
   have k8_1 := kt hg8 1 k7_1
   have k8_2 := kt hg8 2 k7_2
   have k8_4 := kt hg8 4 k7_4
   have k8_5 := kt hg8 5 k7_5
   have k8_6 := kt hg8 6 (hB8.is 2)
   refine then_normal ?_
   exact ⟨_, by omega, g8, rfl, k + 1, ga6, ca6, rfl, k8_1, k8_2, k8_4, k8_6.trans (by go_num), k8_5.trans (by go_num), fB8, (by omega), b8_0, q29', (by omega)⟩
 ·
  have hc7' := hc7; try simp only [ba] at hc7'
  have hkn : k = n := by omega
  refine wp_exit ?_
  refine then_exit ?_
  refine then_exit ?_
  refine inBlock_at ?_
  refine hK3 _ _ ?_
  refine rw_ 2 [(27, 0), (4, 1)] [[], [0]] (rel [is (.slice (some ⟨gq, 0, none⟩) k cq), is (.slice (some ⟨gq, 0, none⟩) k cq)])
   ⟨fun f s W d h j l m a => opm (a.v 5 k4_5),
  fun f s W d h j l m a => opm (a.v 27 (h 0 rfl)), trivial⟩ ?_
  intro f9 s9 W9 hB9 g9 hg9 z9
  have fB9 := hB9.f fB4
  have q30' := (q27'.below hB9.below)
  have k9_4 := kt hg9 4 (hB9.is 1)
  refine wp_ret ?_
  refine leave_one (N := 28) (.inr rfl) Try.results22 rfl k9_4 ?_
  subst hkn
  exact ⟨_, rfl, ⟨_, _, rfl, ownN_lnL q30'⟩, fB9⟩
end Go.Proofs.Ytcgccflcjejlhaa
