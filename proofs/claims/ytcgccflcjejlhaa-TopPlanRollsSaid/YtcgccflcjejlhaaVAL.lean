/- Part of the proof: what the claim leans on. -/
import Derived.Test.YtcgccflcjejlhaaVAE
set_option maxHeartbeats 4000000
set_option maxRecDepth 100000
set_option linter.unusedSimpArgs false
set_option linter.unusedVariables false
namespace Go.Proofs.Ytcgccflcjejlhaa
open Go.RowKit
theorem tr_within_yes {lo hi : Int} {xs : List Int} (h : ∀ x ∈ xs, lo ≤ x ∧ x ≤ hi) : within lo hi xs = true := by
  unfold within
  simp only [Bool.not_eq_true', List.any_eq_false]
  intro x hx
  have := h x hx
  simp; omega
theorem tr_isSpan_yes (lo hi la lb : Int) (w : World) (hs_ : la ≤ lo ∧ lo ≤ hi ∧ hi ≤ lb) :
  Calls Try.prog 62 #[.agg #[.int .i64 lo, .int .i64 hi], .int .i64 la, .int .i64 lb] w (fun e w' => e = .returned (.bool true) ∧ Below w.heap.size w w') := by
 have hlh_ : decide (lo ≤ hi) = true := decide_eq_true hs_.2.1
 refine calls_fr Try.func62 Try.ntmps62 rfl rfl fun g hg => ?_
 have k0 : g 0 = .agg #[.int .i64 lo, .int .i64 hi] := hg 0
 have k1 : g 1 = .int .i64 la := hg 1
 have k2 : g 2 = .int .i64 lb := hg 2
 clear hg
 have fB0 : Below w.heap.size w w := Below.refl _ _
 refine rw_ 2 [(3, 0), (6, 1)] [[], []] (rel [bx 0 #[.int .i64 lo, .int .i64 hi] 43, iB false])
  ⟨fun f s W i j k l m a => opb rfl rfl (by simp [go_sem, a.e 0 k0]),
  fun f s W i j k l m a => opz, trivial⟩ ?_
 intro f1 s1 W1 hB1 g1 hg1 z1
 obtain ⟨r1_0, br1_0⟩ := hB1.is 0
 have lr1_0 := hB1.lr 0 br1_0
 have k1_1 := kt hg1 1 k1
 have k1_2 := kt hg1 2 k2
 have k1_3 := kt hg1 3 r1_0
 refine rw_ 16 [(7, 0), (8, 1), (9, 2), (10, 3), (11, 4), (12, 5), (13, 6), (14, 7), (15, 8), (16, 9), (17, 10), (18, 11), (19, 12), (20, 13), (21, 14), (6, 15)] [[], [], [], [2], [], [4], [3, 5], [0, 1, 6], [7], [8], [8, 9], [8], [8, 11], [8, 10, 12], [8, 13], [14]] (rel [iI la, iI lb, is (.pointer (some ⟨(s1 0), 0, none⟩)), iI lo, is (.pointer (some ⟨(s1 0), 1, none⟩)), iI hi, row 6 2 #[.int .i64 lo, .int .i64 hi] 3, iB true, iB true, is (.pointer (some ⟨(s1 0), 0, none⟩)), iI lo, is (.pointer (some ⟨(s1 0), 1, none⟩)), iI hi, iB true, iB true, iB true])
  ⟨fun f s W i j k l m a => opm (a.v 1 k1_1),
  fun f s W i j k l m a => opm (a.v 2 k1_2),
  fun f s W i j k l m a => opv rfl rfl (by simp [go_sem, a.e 3 k1_3]) rfl,
  fun f s W i j k l m a => opv rfl rfl (by simp [go_sem, a.e 9 (j 2 rfl), cb br1_0 i 0]) rfl,
  fun f s W i j k l m a => opv rfl rfl (by simp [go_sem, a.e 3 k1_3]) rfl,
  fun f s W i j k l m a => opv rfl rfl (by simp [go_sem, a.e 11 (j 4 rfl), cb br1_0 i 1]) rfl,
  fun f s W i j k l m a => opr rfl rfl (by simp [go_sem, a.e 10 (j 3 rfl), a.e 12 (j 5 rfl)]),
  fun f s W i j k l m a => opd (args := #[.int .i64 la, .int .i64 lb, .slice (some ⟨(s 6), 0, none⟩) (2) (2)]) rfl rfl (by simp [go_sem, a.e 7 (j 0 rfl), a.e 8 (j 1 rfl), a.e 13 (j 6 rfl).1]) (tr_within_any (la) (lb) _ 2 2 [lo, hi] W (ii_block (xs := [lo, hi]) (j 6 rfl).2 rfl rfl)) ((fun e W' h => by have h1 := h.1; rw [tr_within_yes (by simp; omega)] at h1; exact ⟨_, h1, h.2, rfl⟩)),
  fun f s W i j k l m a => opm (a.v 14 (j 7 rfl)),
  fun f s W i j k l m a => osure rfl rfl (a.says (d := 15) rfl rfl (j 8 rfl)) (gv (by simp [go_sem, a.e 3 k1_3]) rfl),
  fun f s W i j k l m a => osure rfl rfl (a.says (d := 15) rfl rfl (j 8 rfl)) (gv (by simp [go_sem, a.e 16 (j 9 rfl), cb br1_0 i 0]) rfl),
  fun f s W i j k l m a => osure rfl rfl (a.says (d := 15) rfl rfl (j 8 rfl)) (gv (by simp [go_sem, a.e 3 k1_3]) rfl),
  fun f s W i j k l m a => osure rfl rfl (a.says (d := 15) rfl rfl (j 8 rfl)) (gv (by simp [go_sem, a.e 18 (j 11 rfl), cb br1_0 i 1]) rfl),
  fun f s W i j k l m a => osure rfl rfl (a.says (d := 15) rfl rfl (j 8 rfl)) (gv (by simp [go_sem, a.e 17 (j 10 rfl), a.e 19 (j 12 rfl), hlh_]) rfl),
  fun f s W i j k l m a => opk (c := true) rfl rfl (fun h => absurd h (by decide)) (fun _ => by simp [go_sem, a.e 15 (j 8 rfl), a.e 20 (j 13 rfl)]),
  fun f s W i j k l m a => opm (a.v 21 (j 14 rfl)), trivial⟩ ?_
 intro f2 s2 W2 hB2 g2 hg2 z2
 have fB2 := hB2.f (hB1.f fB0)
 obtain ⟨r2_6, br2_6⟩ := hB2.is 6
 have lr2_6 := hB2.lr 6 br2_6
 have k2_6 := kt hg2 6 (hB2.is 15)
 refine wp_ret ?_
 refine leave_one (N := 22) (.inr rfl) Try.results62 rfl k2_6 ?_
 exact ⟨rfl, fB2⟩
theorem tr_open1 (o : To) (w : World) (ho : ToIn o) :
  Calls Try.prog 60 #[.agg #[.int .i64 o.wd, .int .i64 o.lo, .int .i64 o.hi]] w (fun e w' => e = .returned (.bool false) ∧ Below w.heap.size w w') := by
 have h1_ := ho.wd
 have h2_ := ho.need
 refine calls_fr Try.func60 Try.ntmps60 rfl rfl fun g hg => ?_
 have k0 : g 0 = .agg #[.int .i64 o.wd, .int .i64 o.lo, .int .i64 o.hi] := hg 0
 clear hg
 have fB0 : Below w.heap.size w w := Below.refl _ _
 refine rw_ 2 [(1, 0), (2, 1)] [[], []] (rel [bx 0 #[.int .i64 o.wd, .int .i64 o.lo, .int .i64 o.hi] 65, iB false])
  ⟨fun f s W i j k l m a => opb rfl rfl (by simp [go_sem, a.e 0 k0]),
  fun f s W i j k l m a => opz, trivial⟩ ?_
 intro f1 s1 W1 hB1 g1 hg1 z1
 obtain ⟨r1_0, br1_0⟩ := hB1.is 0
 have lr1_0 := hB1.lr 0 br1_0
 have k1_1 := kt hg1 1 r1_0
 refine rw_ 12 [(3, 0), (4, 1), (5, 2), (6, 3), (7, 4), (8, 5), (9, 6), (10, 7), (11, 8), (12, 9), (13, 10), (2, 11)] [[], [0], [1], [2], [3], [4], [5], [5, 6], [5, 7], [5, 8], [5, 9], [10]] (rel [is (.pointer (some ⟨(s1 0), 0, none⟩)), iI o.wd, row 2 1 #[.int .i64 o.wd] 3, iB true, iB false, iB false, is (.pointer (some ⟨(s1 0), 1, none⟩)), is (.agg #[.int .i64 o.lo, .int .i64 o.hi]), iB true, iB false, iB false, iB false])
  ⟨fun f s W i j k l m a => opv rfl rfl (by simp [go_sem, a.e 1 k1_1]) rfl,
  fun f s W i j k l m a => opv rfl rfl (by simp [go_sem, a.e 3 (j 0 rfl), cb br1_0 i 0]) rfl,
  fun f s W i j k l m a => opr rfl rfl (by simp [go_sem, a.e 4 (j 1 rfl)]),
  fun f s W i j k l m a => opd (args := #[.int .i64 1, .int .i64 3000, .slice (some ⟨(s 2), 0, none⟩) (1) (1)]) rfl rfl (by simp [go_sem, a.e 5 (j 2 rfl).1]) (tr_within_any (1) (3000) _ 1 1 [o.wd] W (ii_block (xs := [o.wd]) (j 2 rfl).2 rfl rfl)) ((fun e W' h => by have h1 := h.1; rw [tr_within_yes (by simp; omega)] at h1; exact ⟨_, h1, h.2, rfl⟩)),
  fun f s W i j k l m a => opv rfl rfl (by simp [go_sem, a.e 6 (j 3 rfl)]) rfl,
  fun f s W i j k l m a => opm (a.v 7 (j 4 rfl)),
  fun f s W i j k l m a => osure rfl rfl (a.says (d := 8) rfl rfl (j 5 rfl)) (gv (by simp [go_sem, a.e 1 k1_1]) rfl),
  fun f s W i j k l m a => osure rfl rfl (a.says (d := 8) rfl rfl (j 5 rfl)) (gv (by simp [go_sem, a.e 9 (j 6 rfl), cb br1_0 i 1, cb br1_0 i 2]) rfl),
  fun f s W i j k l m a => osure rfl rfl (a.says (d := 8) rfl rfl (j 5 rfl)) (gc (by simp [go_sem, a.e 10 (j 7 rfl)]) (tr_isSpan_yes (o.lo) (o.hi) (0) (100) W (by omega))),
  fun f s W i j k l m a => osure rfl rfl (a.says (d := 8) rfl rfl (j 5 rfl)) (gv (by simp [go_sem, a.e 11 (j 8 rfl)]) rfl),
  fun f s W i j k l m a => opk (c := false) rfl rfl (fun _ => by simp [go_sem, a.e 8 (j 5 rfl), a.e 12 (j 9 rfl)]) (fun h => absurd h (by decide)),
  fun f s W i j k l m a => opm (a.v 13 (j 10 rfl)), trivial⟩ ?_
 intro f2 s2 W2 hB2 g2 hg2 z2
 have fB2 := hB2.f (hB1.f fB0)
 obtain ⟨r2_2, br2_2⟩ := hB2.is 2
 have lr2_2 := hB2.lr 2 br2_2
 have k2_2 := kt hg2 2 (hB2.is 11)
 refine wp_ret ?_
 refine leave_one (N := 14) (.inr rfl) Try.results60 rfl k2_2 ?_
 exact ⟨rfl, fB2⟩
theorem tr_index_no (os : Nat → To) (bo oo no co : Nat) (w : World) (hO : OrdR w bo oo no os) (ho : ∀ i, i < no → ToIn (os i)) (gno : no ≤ 4) :
  Calls Try.prog 109 #[.slice (some ⟨bo, oo, none⟩) no co, .func (.func 60) #[] #[]] w (fun e w' => e = .returned (.int .i64 (-1)) ∧ Below w.heap.size w w') := by
 refine calls_fr Try.func109 Try.ntmps109 rfl rfl fun g hg => ?_
 have k0 : g 0 = .slice (some ⟨bo, oo, none⟩) no co := hg 0
 have k1 : g 1 = .func (.func 60) #[] #[] := hg 1
 clear hg
 have fB0 : Below w.heap.size w w := Below.refl _ _
 refine rw_ 1 [(4, 0)] [[]] (rel [iI 0])
  ⟨fun f s W b c d h j a => opz, trivial⟩ ?_
 intro f1 s1 W1 hB1 g1 hg1 z1
 have k1_0 := kt hg1 0 k0
 refine wp_seq_k fun K2 hK2 => ?_
 refine rw_ 3 [(6, 0), (7, 1), (8, 2)] [[], [0], []] (rel [is (.slice (some ⟨bo, oo, none⟩) no co), iI ((no : Int)), iI 0])
  ⟨fun f s W b c d h j a => opm (a.v 0 k1_0),
  fun f s W b c d h j a => opv rfl rfl (by simp [go_sem, a.e 6 (c 0 rfl)]) rfl,
  fun f s W b c d h j a => opz, trivial⟩ ?_
 intro f2 s2 W2 hB2 g2 hg2 z2
 have fB2 := hB2.f (hB1.f fB0)
 have k2_0 := kt hg2 0 k1_0
 have k2_1 := kt hg2 1 (kt hg1 1 k1)
 have k2_4 := kt hg2 4 (kt hg1 4 (hB1.is 0))
 have k2_7 := kt hg2 7 (hB2.is 1)
 have k2_8 := kt hg2 8 (hB2.is 2)
 refine wp_block ?_
 refine wp_loop_n (fun m_ a_ W_ => ∃ g_ : Nat → Value, a_ = fr 19 g_ ∧ (∃ k : Nat, m_ = no - k ∧ g_ 0 = .slice (some ⟨bo, oo, none⟩) no co ∧ g_ 1 = .func (.func 60) #[] #[] ∧ g_ 4 = .int .i64 0 ∧ g_ 7 = .int .i64 ((no : Int)) ∧ g_ 8 = .int .i64 ((k : Int)) ∧ Below w.heap.size w W_ ∧ W2.heap.size ≤ W_.heap.size ∧ (k ≤ no))) ⟨_, g2, rfl, 0, rfl, k2_0, k2_1, k2_4, k2_7, k2_8.trans (by rfl), fB2, Nat.le_refl _, (by omega)⟩ ?_
 rintro _ _ W_1 ⟨g_1, rfl, k, rfl, k_1_0, k_1_1, k_1_4, k_1_7, k_1_8, fB_1, z_1, lk0⟩
 refine rw_ 1 [(9, 0)] [[]] (rel [iB (decide ((k : Int) < (no : Int)))])
  ⟨fun f s W b c d h j a => opv rfl rfl (by simp [go_sem, a.e 8 k_1_8, a.e 7 k_1_7]) rfl, trivial⟩ ?_
 intro f3 s3 W3 hB3 g3 hg3 z3
 have fB3 := hB3.f fB_1
 have k3_8 := kt hg3 8 k_1_8
 have k3_9 := kt hg3 9 (hB3.is 0)
 refine wp_seq_k fun K5 hK5 => ?_
 refine wp_cond_split (t := decide ((k : Int) < (no : Int))) ((fr_eval rfl).trans k3_9) (fun hc6 => ?_) (fun hc6 => ?_)
 ·
  have hc6' := hc6; try simp only [ba] at hc6'
  have hkn : k < no := by omega
  refine wp_skip ?_
  refine hK5 _ _ ?_
  refine wp_seq_k fun K7 hK7 => ?_
  refine wp_block ?_
  refine rw_ 2 [(10, 0), (5, 1)] [[], [0]] (rel [iI ((k : Int)), iI ((k : Int))])
   ⟨fun f s W b c d h j a => opm (a.v 8 k3_8),
  fun f s W b c d h j a => opm (a.v 10 (c 0 rfl)), trivial⟩ ?_
  intro f4 s4 W4 hB4 g4 hg4 z4
  have fB4 := hB4.f fB3
  have k4_0 := kt hg4 0 (kt hg3 0 k_1_0)
  have k4_1 := kt hg4 1 (kt hg3 1 k_1_1)
  have k4_5 := kt hg4 5 (hB4.is 1)
  refine rw_ 6 [(11, 0), (12, 1), (13, 2), (14, 3), (15, 4), (16, 5)] [[], [], [], [1, 2], [3], [0, 4]] (rel [is (.func (.func 60) #[] #[]), is (.slice (some ⟨bo, oo, none⟩) no co), iI ((k : Int)), is (.pointer (some ⟨bo, oo + k * 3, none⟩)), is (.agg #[.int .i64 ((os k).wd), .int .i64 ((os k).lo), .int .i64 ((os k).hi)]), iB false])
   ⟨fun f s W b c d h j a => opm (a.v 1 k4_1),
  fun f s W b c d h j a => opm (a.v 0 k4_0),
  fun f s W b c d h j a => opm (a.v 5 k4_5),
  fun f s W b c d h j a => by have li_ := Nat.not_le.2 (show k < no by omega); have li2_ : (k : Int) < (no : Int) := (by omega); exact opv rfl rfl (by simp [go_sem, a.e 12 (c 1 rfl), a.e 13 (c 2 rfl), li_, li2_]) rfl,
  fun f s W b c d h j a => by have l := bwt fB4 b; have cu_ := (hO.below l).2 k (by omega); have cu0_ : W.cell? ⟨bo, oo + k * 3, none⟩ = some (.int .i64 (os k).wd) := cu_.1; have cu1_ : W.cell? ⟨bo, oo + k * 3 + 1, none⟩ = some (.int .i64 (os k).lo) := cu_.2.1; have cu2_ : W.cell? ⟨bo, oo + k * 3 + 2, none⟩ = some (.int .i64 (os k).hi) := cu_.2.2; exact opv rfl rfl (by simp [go_sem, a.e 14 (c 3 rfl), cu0_, cu1_, cu2_]) rfl,
  fun f s W b c d h j a => opc rfl rfl (by simp [go_sem, a.e 15 (c 4 rfl), a.e 11 (c 0 rfl)]) (tr_open1 (os k) W (ho k (by omega))), trivial⟩ ?_
  intro f5 s5 W5 hB5 g5 hg5 z5
  have k5_8 := kt hg5 8 (kt hg4 8 k3_8)
  have k5_16 := kt hg5 16 (hB5.is 5)
  refine wp_cond_false ((fr_eval rfl).trans k5_16) ?_
  refine wp_skip ?_
  refine ibn ?_
  refine hK7 _ _ ?_
  refine ry 2 [(18, 0), (8, 1)] [[], [0]] (rel [iI ((k : Int) + 1), iI ((k : Int) + 1)])
   ⟨fun f s W b c d h j a => opv rfl rfl (by simp [go_sem, a.e 8 ((h 1 8 rfl rfl).trans k5_8), IntWalk.i64_in ((k : Int) + 1) (by omega)]) rfl,
  fun f s W b c d h j a => opm (a.v 18 (c 0 rfl)), trivial⟩ ?_
  intro f6 s6 W6 hB6 g6 hg6 z6
  have fB6 := hB6.f (hB5.f fB4)
  refine wpe ?_
  have k6_0 := kt hg6 0 (kt hg5 0 k4_0)
  have k6_1 := kt hg6 1 (kt hg5 1 k4_1)
  have k6_4 := kt hg6 4 (kt hg5 4 (kt hg4 4 (kt hg3 4 k_1_4)))
  have k6_7 := kt hg6 7 (kt hg5 7 (kt hg4 7 (kt hg3 7 k_1_7)))
  have k6_8 := kt hg6 8 (hB6.is 1)
  refine then_normal ?_
  exact ⟨_, by omega, g6, rfl, k + 1, rfl, k6_0, k6_1, k6_4, k6_7, k6_8.trans (by go_num), fB6, (by omega), (by omega)⟩
 ·
  have hc6' := hc6; try simp only [ba] at hc6'
  refine wp_exit ?_
  refine then_exit ?_
  refine then_exit ?_
  refine inBlock_at ?_
  refine hK2 _ _ ?_
  refine rw_ 1 [(4, 0)] [[]] (rel [iI (-1)])
   ⟨fun f s W b c d h j a => opz, trivial⟩ ?_
  intro f7 s7 W7 hB7 g7 hg7 z7
  have fB7 := hB7.f fB3
  have k7_4 := kt hg7 4 (hB7.is 0)
  refine wp_ret ?_
  refine leave_one (N := 19) (.inr rfl) Try.results109 rfl k7_4 ?_
  exact ⟨rfl, fB7⟩
theorem tr_contains_no (os : Nat → To) (bo oo no co : Nat) (w : World) (hO : OrdR w bo oo no os) (ho : ∀ i, i < no → ToIn (os i)) (gno : no ≤ 4) :
  Calls Try.prog 63 #[.slice (some ⟨bo, oo, none⟩) no co, .func (.func 60) #[] #[]] w (fun e w' => e = .returned (.bool false) ∧ Below w.heap.size w w') := by
 refine calls_fr Try.func63 Try.ntmps63 rfl rfl fun g hg => ?_
 have k0 : g 0 = .slice (some ⟨bo, oo, none⟩) no co := hg 0
 have k1 : g 1 = .func (.func 60) #[] #[] := hg 1
 clear hg
 have fB0 : Below w.heap.size w w := Below.refl _ _
 refine rw_ 1 [(4, 0)] [[]] (rel [iB false])
  ⟨fun f s W b c d h j a => opz, trivial⟩ ?_
 intro f1 s1 W1 hB1 g1 hg1 z1
 have fB1 := hB1.f fB0
 have k1_0 := kt hg1 0 k0
 have k1_1 := kt hg1 1 k1
 refine rw_ 5 [(5, 0), (6, 1), (7, 2), (8, 3), (4, 4)] [[], [], [0, 1], [2], [3]] (rel [is (.slice (some ⟨bo, oo, none⟩) no co), is (.func (.func 60) #[] #[]), iI (-1), iB false, iB false])
  ⟨fun f s W b c d h j a => opm (a.v 0 k1_0),
  fun f s W b c d h j a => opm (a.v 1 k1_1),
  fun f s W b c d h j a => by have k := bwt fB1 b; exact opc rfl rfl (by simp [go_sem, a.e 5 (c 0 rfl), a.e 6 (c 1 rfl)]) (tr_index_no os bo oo no co W (hO.below k) ho gno),
  fun f s W b c d h j a => opv rfl rfl (by simp [go_sem, a.e 7 (c 2 rfl)]) rfl,
  fun f s W b c d h j a => opm (a.v 8 (c 3 rfl)), trivial⟩ ?_
 intro f2 s2 W2 hB2 g2 hg2 z2
 have fB2 := hB2.f fB1
 have k2_4 := kt hg2 4 (hB2.is 4)
 refine wp_ret ?_
 refine leave_one (N := 9) (.inr rfl) Try.results63 rfl k2_4 ?_
 exact ⟨rfl, fB2⟩
theorem tr_open (p : Tp) (os : Nat → To) (bo oo no co : Nat) (w : World) (hO : OrdR w bo oo no os) (hp : TpIn p) (ho : ∀ i, i < no → ToIn (os i)) (gno : no ≤ 4) :
  Calls Try.prog 30 #[.agg #[.int .i64 p.wide, .int .i64 p.tlo, .int .i64 p.thi, .int .i64 p.webs], .slice (some ⟨bo, oo, none⟩) no co] w (fun e w' => e = .returned (.tuple #[.agg #[.int .i64 p.wide, .int .i64 p.tlo, .int .i64 p.thi, .int .i64 p.webs, .slice (some ⟨bo, oo, none⟩) no co], .int .i64 0]) ∧ Below w.heap.size w w') := by
 have g1_ := hp.wide
 have g2_ := hp.trim
 have g3_ := hp.webs
 have hno_ : decide (4 < (no : Int)) = false := decide_eq_false (by omega)
 refine calls_fr Try.func30 Try.ntmps30 rfl rfl fun g hg => ?_
 have k0 : g 0 = .agg #[.int .i64 p.wide, .int .i64 p.tlo, .int .i64 p.thi, .int .i64 p.webs] := hg 0
 have k1 : g 1 = .slice (some ⟨bo, oo, none⟩) no co := hg 1
 clear hg
 have fB0 : Below w.heap.size w w := Below.refl _ _
 refine rw_ 3 [(2, 0), (4, 1), (5, 2)] [[], [], []] (rel [bx 0 #[.int .i64 p.wide, .int .i64 p.tlo, .int .i64 p.thi, .int .i64 p.webs] 61, bx 1 #[.int .i64 0, .int .i64 0, .int .i64 0, .int .i64 0, .slice none 0 0] 110, iI 0])
  ⟨fun f s W c d j k l a => opb rfl rfl (by simp [go_sem, a.e 0 k0]),
  fun f s W c d j k l a => opb rfl rfl (by simp [go_sem]),
  fun f s W c d j k l a => opz, trivial⟩ ?_
 intro f1 s1 W1 hB1 g1 hg1 z1
 obtain ⟨r1_0, br1_0⟩ := hB1.is 0
 have lr1_0 := hB1.lr 0 br1_0
 obtain ⟨r1_1, br1_1⟩ := hB1.is 1
 have lr1_1 := hB1.lr 1 br1_1
 have ne1_0_1 := hB1.nb 0 1
 refine rw_ 1 [(6, 0)] [[]] (rel [is (.func (.func 60) #[] #[])])
  ⟨fun f s W c d j k l a => opv rfl rfl (by simp [go_sem]) rfl, trivial⟩ ?_
 intro f2 s2 W2 hB2 g2 hg2 z2
 have b2_0 := hB2.b br1_0
 have k2_2 := kt hg2 2 (kt hg1 2 r1_0)
 refine wp_seq_k fun K3 hK3 => ?_
 refine wp_block ?_
 refine wp_seq_k fun K4 hK4 => ?_
 refine rw_ 6 [(8, 0), (9, 1), (10, 2), (11, 3), (12, 4), (7, 5)] [[], [0], [1], [2], [3], [4]] (rel [is (.pointer (some ⟨(s1 0), 0, none⟩)), iI p.wide, row 2 1 #[.int .i64 p.wide] 3, iB true, iB false, iB false])
  ⟨fun f s W c d j k l a => opv rfl rfl (by simp [go_sem, a.e 2 k2_2]) rfl,
  fun f s W c d j k l a => opv rfl rfl (by simp [go_sem, a.e 8 (d 0 rfl), cb b2_0 c 0]) rfl,
  fun f s W c d j k l a => opr rfl rfl (by simp [go_sem, a.e 9 (d 1 rfl)]),
  fun f s W c d j k l a => opd (args := #[.int .i64 1, .int .i64 3000, .slice (some ⟨(s 2), 0, none⟩) (1) (1)]) rfl rfl (by simp [go_sem, a.e 10 (d 2 rfl).1]) (tr_within_any (1) (3000) _ 1 1 [p.wide] W (ii_block (xs := [p.wide]) (d 2 rfl).2 rfl rfl)) ((fun e W' h => by have h1 := h.1; rw [tr_within_yes (by simp; omega)] at h1; exact ⟨_, h1, h.2, rfl⟩)),
  fun f s W c d j k l a => opv rfl rfl (by simp [go_sem, a.e 11 (d 3 rfl)]) rfl,
  fun f s W c d j k l a => opm (a.v 12 (d 4 rfl)), trivial⟩ ?_
 intro f3 s3 W3 hB3 g3 hg3 z3
 have b3_0 := hB3.b b2_0
 obtain ⟨r3_2, br3_2⟩ := hB3.is 2
 have lr3_2 := hB3.lr 2 br3_2
 have k3_2 := kt hg3 2 k2_2
 have k3_7 := kt hg3 7 (hB3.is 5)
 refine wp_cond_false ((fr_eval rfl).trans k3_7) ?_
 refine rw_ 5 [(13, 0), (14, 1), (15, 2), (16, 3), (7, 4)] [[], [0], [1], [2], [3]] (rel [is (.pointer (some ⟨(s1 0), 1, none⟩)), is (.agg #[.int .i64 p.tlo, .int .i64 p.thi]), iB true, iB false, iB false])
  ⟨fun f s W c d j k l a => opv rfl rfl (by simp [go_sem, a.e 2 k3_2]) rfl,
  fun f s W c d j k l a => opv rfl rfl (by simp [go_sem, a.e 13 (d 0 rfl), cb b3_0 c 1, cb b3_0 c 2]) rfl,
  fun f s W c d j k l a => opc rfl rfl (by simp [go_sem, a.e 14 (d 1 rfl)]) (tr_isSpan_yes (p.tlo) (p.thi) (0) (3000) W (by omega)),
  fun f s W c d j k l a => opv rfl rfl (by simp [go_sem, a.e 15 (d 2 rfl)]) rfl,
  fun f s W c d j k l a => opm (a.v 16 (d 3 rfl)), trivial⟩ ?_
 intro f4 s4 W4 hB4 g4 hg4 z4
 have b4_0 := hB4.b b3_0
 have k4_2 := kt hg4 2 k3_2
 have k4_7 := kt hg4 7 (hB4.is 4)
 refine wp_cond_false ((fr_eval rfl).trans k4_7) ?_
 refine ry 6 [(17, 0), (18, 1), (19, 2), (20, 3), (21, 4), (7, 5)] [[], [0], [1], [2], [3], [4]] (rel [is (.pointer (some ⟨(s1 0), 3, none⟩)), iI p.webs, row 2 1 #[.int .i64 p.webs] 3, iB true, iB false, iB false])
  ⟨fun f s W c d j k l a => opv rfl rfl (by simp [go_sem, a.e 2 k4_2]) rfl,
  fun f s W c d j k l a => opv rfl rfl (by simp [go_sem, a.e 17 (d 0 rfl), cb b4_0 c 3]) rfl,
  fun f s W c d j k l a => opr rfl rfl (by simp [go_sem, a.e 18 (d 1 rfl)]),
  fun f s W c d j k l a => opd (args := #[.int .i64 1, .int .i64 4, .slice (some ⟨(s 2), 0, none⟩) (1) (1)]) rfl rfl (by simp [go_sem, a.e 19 (d 2 rfl).1]) (tr_within_any (1) (4) _ 1 1 [p.webs] W (ii_block (xs := [p.webs]) (d 2 rfl).2 rfl rfl)) ((fun e W' h => by have h1 := h.1; rw [tr_within_yes (by simp; omega)] at h1; exact ⟨_, h1, h.2, rfl⟩)),
  fun f s W c d j k l a => opv rfl rfl (by simp [go_sem, a.e 20 (d 3 rfl)]) rfl,
  fun f s W c d j k l a => opm (a.v 21 (d 4 rfl)), trivial⟩ ?_
 intro f5 s5 W5 hB5 g5 hg5 z5
 obtain ⟨r5_2, br5_2⟩ := hB5.is 2
 have lr5_2 := hB5.lr 2 br5_2
 refine hK4 _ _ ?_
 have k5_1 := kt hg5 1 (kt hg4 1 (kt hg3 1 (kt hg2 1 (kt hg1 1 k1))))
 have k5_7 := kt hg5 7 (hB5.is 5)
 refine wp_cond_false ((fr_eval rfl).trans k5_7) ?_
 refine rw_ 4 [(24, 0), (25, 1), (26, 2), (23, 3)] [[], [0], [1], [2]] (rel [is (.slice (some ⟨bo, oo, none⟩) no co), iI ((no : Int)), iB false, iB false])
  ⟨fun f s W c d j k l a => opm (a.v 1 k5_1),
  fun f s W c d j k l a => opv rfl rfl (by simp [go_sem, a.e 24 (d 0 rfl)]) rfl,
  fun f s W c d j k l a => opv rfl rfl (by simp [go_sem, a.e 25 (d 1 rfl), hno_]) rfl,
  fun f s W c d j k l a => opm (a.v 26 (d 2 rfl)), trivial⟩ ?_
 intro f6 s6 W6 hB6 g6 hg6 z6
 have fB6 := hB6.f (hB5.f (hB4.f (hB3.f (hB2.f (hB1.f fB0)))))
 have k6_1 := kt hg6 1 k5_1
 have k6_6 := kt hg6 6 (kt hg5 6 (kt hg4 6 (kt hg3 6 (kt hg2 6 (hB2.is 0)))))
 have k6_23 := kt hg6 23 (hB6.is 3)
 refine wp_cond_false ((fr_eval rfl).trans k6_23) ?_
 refine rw_ 4 [(29, 0), (30, 1), (31, 2), (28, 3)] [[], [], [0, 1], [2]] (rel [is (.slice (some ⟨bo, oo, none⟩) no co), is (.func (.func 60) #[] #[]), iB false, iB false])
  ⟨fun f s W c d j k l a => opm (a.v 1 k6_1),
  fun f s W c d j k l a => opm (a.v 6 k6_6),
  fun f s W c d j k l a => by have m := bwt fB6 c; exact opc rfl rfl (by simp [go_sem, a.e 29 (d 0 rfl), a.e 30 (d 1 rfl)]) (tr_contains_no os bo oo no co W (hO.below m) ho gno),
  fun f s W c d j k l a => opm (a.v 31 (d 2 rfl)), trivial⟩ ?_
 intro f7 s7 W7 hB7 g7 hg7 z7
 have b7_0 := hB7.b (hB6.b (hB5.b b4_0))
 have k7_1 := kt hg7 1 k6_1
 have k7_2 := kt hg7 2 (kt hg6 2 (kt hg5 2 k4_2))
 have k7_28 := kt hg7 28 (hB7.is 3)
 refine wp_cond_false ((fr_eval rfl).trans k7_28) ?_
 refine wp_skip ?_
 refine ibn ?_
 refine hK3 _ _ ?_
 refine wp_seq_k fun K14 hK14 => ?_
 refine ry 3 [(33, 0), (34, 1), (35, 2), (5, 4)] [[], [], [0, 1], [0, 1, 2], [0, 1, 2, 3]] (rel [is (.agg #[.int .i64 p.wide, .int .i64 p.tlo, .int .i64 p.thi, .int .i64 p.webs]), is (.slice (some ⟨bo, oo, none⟩) no co), is (.agg #[.int .i64 p.wide, .int .i64 p.tlo, .int .i64 p.thi, .int .i64 p.webs, .slice (some ⟨bo, oo, none⟩) no co])])
  ⟨fun f s W c d j k l a => opl rfl rfl rfl (a.v 2 k7_2) (bwb b7_0 c) Try.underlying61 rfl (by kernel_rfl) rfl,
  fun f s W c d j k l a => opm (a.v 1 k7_1),
  fun f s W c d j k l a => opv rfl rfl (by simp [go_sem, a.e 33 (d 0 rfl), a.e 34 (d 1 rfl)]) rfl, trivial⟩ ?_
 intro f8 s8 W8 hB8 g8 hg8 z8
 have fB8 := hB8.f (hB7.f fB6)
 have b8_1 := hB8.b (hB7.b (hB6.b (hB5.b (hB4.b (hB3.b (hB2.b br1_1))))))
 have k8_4 := kt hg8 4 (kt hg7 4 (kt hg6 4 (kt hg5 4 (kt hg4 4 (kt hg3 4 (kt hg2 4 (kt hg1 4 r1_1)))))))
 have k8_35 := kt hg8 35 (hB8.is 2)
 obtain ⟨W9, hW9⟩ : ∃ W', W' = W8.setRow (s1 1) #[.int .i64 p.wide, .int .i64 p.tlo, .int .i64 p.thi, .int .i64 p.webs, .slice (some ⟨bo, oo, none⟩) no co] := ⟨_, rfl⟩
 refine tsk (o := _) rfl ⟨rfl, rfl⟩ (run_seg hW9 (fr_ev k8_4) (fr_ev k8_35) b8_1 rfl rfl rfl rfl) ?_
 obtain ⟨fB9, nb9, ot9, z9⟩ := sgf hW9 fB8 b8_1 (by omega)
 clear hW9
 refine tail_value (o := _) rfl rfl rfl (v := .int .i64 0) (by simp [go_sem]) ?_
 generalize hg10 : upd g8 5 (.int .i64 0) = g10
 have k10_4 := ku hg10 4 k8_4
 have k10_5 := kt hg10 5 (upd_same _ _ _)
 refine wpe ?_
 refine hK14 _ _ ?_
 refine wp_ret ?_
 refine leave_gen (v := .tuple #[.agg #[.int .i64 p.wide, .int .i64 p.tlo, .int .i64 p.thi, .int .i64 p.webs, .slice (some ⟨bo, oo, none⟩) no co], .int .i64 0]) (.inr rfl) (by simp [results, Try.results30, go_sem, frv 36 k10_4, cl nb9 0, cl nb9 1, cl nb9 2, cl nb9 3, cl nb9 4, frv 36 k10_5]) ?_
 exact ⟨rfl, fB9⟩
theorem tr_check (p : Tp) (os : Nat → To) (bo oo no co : Nat) (ax : Option Addr) (nx cx : Nat) (xs : List Int) (w : World) (hO : OrdR w bo oo no os) (hp : TpIn p) (ho : ∀ i, i < no → ToIn (os i)) (gno : no ≤ 4) (hX : Ii w ax nx cx xs) (gxs : ∀ x ∈ xs, 0 ≤ x ∧ x ≤ 4) (gnx : nx = no) (hpat : patF p os xs no = true) :
  Calls Try.prog 122 #[.agg #[.int .i64 p.wide, .int .i64 p.tlo, .int .i64 p.thi, .int .i64 p.webs, .slice (some ⟨bo, oo, none⟩) no co], .slice ax nx cx] w (fun e w' => e = .returned (.int .i64 0) ∧ Below w.heap.size w w') := by
 have hnx_ : ((nx : Int) != (no : Int)) = false := bne_eq_false_iff_eq.2 (by omega)
 refine calls_fr Try.func122 Try.ntmps122 rfl rfl fun g hg => ?_
 have k0 : g 0 = .agg #[.int .i64 p.wide, .int .i64 p.tlo, .int .i64 p.thi, .int .i64 p.webs, .slice (some ⟨bo, oo, none⟩) no co] := hg 0
 have k1 : g 1 = .slice ax nx cx := hg 1
 clear hg
 have fB0 : Below w.heap.size w w := Below.refl _ _
 refine rw_ 2 [(2, 0), (4, 1)] [[], []] (rel [bx 0 #[.int .i64 p.wide, .int .i64 p.tlo, .int .i64 p.thi, .int .i64 p.webs, .slice (some ⟨bo, oo, none⟩) no co] 110, iI 0])
  ⟨fun f s W c d j k l a => opb rfl rfl (by simp [go_sem, a.e 0 k0]),
  fun f s W c d j k l a => opz, trivial⟩ ?_
 intro f1 s1 W1 hB1 g1 hg1 z1
 obtain ⟨r1_0, br1_0⟩ := hB1.is 0
 have lr1_0 := hB1.lr 0 br1_0
 have k1_1 := kt hg1 1 k1
 have k1_2 := kt hg1 2 r1_0
 refine wp_seq_k fun K2 hK2 => ?_
 refine wp_block ?_
 refine wp_seq_k fun K3 hK3 => ?_
 refine rw_ 7 [(6, 0), (7, 1), (8, 2), (9, 3), (10, 4), (11, 5), (5, 6)] [[], [0], [], [2], [3], [1, 4], [5]] (rel [is (.slice ax nx cx), iI ((nx : Int)), is (.pointer (some ⟨(s1 0), 4, none⟩)), is (.slice (some ⟨bo, oo, none⟩) no co), iI ((no : Int)), iB false, iB false])
  ⟨fun f s W c d j k l a => opm (a.v 1 k1_1),
  fun f s W c d j k l a => opv rfl rfl (by simp [go_sem, a.e 6 (d 0 rfl)]) rfl,
  fun f s W c d j k l a => opv rfl rfl (by simp [go_sem, a.e 2 k1_2]) rfl,
  fun f s W c d j k l a => opv rfl rfl (by simp [go_sem, a.e 8 (d 2 rfl), cb br1_0 c 4]) rfl,
  fun f s W c d j k l a => opv rfl rfl (by simp [go_sem, a.e 9 (d 3 rfl)]) rfl,
  fun f s W c d j k l a => opv rfl rfl (by simp [go_sem, a.e 7 (d 1 rfl), a.e 10 (d 4 rfl), hnx_]) rfl,
  fun f s W c d j k l a => opm (a.v 11 (d 5 rfl)), trivial⟩ ?_
 intro f2 s2 W2 hB2 g2 hg2 z2
 have fB2 := hB2.f (hB1.f fB0)
 have k2_1 := kt hg2 1 k1_1
 have k2_5 := kt hg2 5 (hB2.is 6)
 refine wp_cond_false ((fr_eval rfl).trans k2_5) ?_
 refine ry 4 [(12, 0), (13, 1), (14, 2), (5, 3)] [[], [0], [1], [2]] (rel [is (.slice ax nx cx), iB true, iB false, iB false])
  ⟨fun f s W c d j k l a => opm (a.v 1 k2_1),
  fun f s W c d j k l a => by have m := bwt fB2 c; exact opd rfl rfl (by simp [go_sem, a.e 12 (d 0 rfl)]) (tr_within_any (0) (4) ax nx cx xs W (hX.below m (Nat.le_refl _))) ((fun e W' h => by have h1 := h.1; rw [tr_within_yes gxs] at h1; exact ⟨_, h1, h.2, rfl⟩)),
  fun f s W c d j k l a => opv rfl rfl (by simp [go_sem, a.e 13 (d 1 rfl)]) rfl,
  fun f s W c d j k l a => opm (a.v 14 (d 2 rfl)), trivial⟩ ?_
 intro f3 s3 W3 hB3 g3 hg3 z3
 have fB3 := hB3.f fB2
 have b3_0 := hB3.b (hB2.b br1_0)
 refine hK3 _ _ ?_
 have k3_1 := kt hg3 1 k2_1
 have k3_2 := kt hg3 2 (kt hg2 2 k1_2)
 have k3_5 := kt hg3 5 (hB3.is 3)
 refine wp_cond_false ((fr_eval rfl).trans k3_5) ?_
 refine rw_ 5 [(16, 0), (17, 1), (18, 2), (19, 3), (15, 4)] [[], [], [0, 1], [2], [3]] (rel [is (.agg #[.int .i64 p.wide, .int .i64 p.tlo, .int .i64 p.thi, .int .i64 p.webs, .slice (some ⟨bo, oo, none⟩) no co]), is (.slice ax nx cx), iB true, iB false, iB false])
  ⟨fun f s W c d j k l a => opl rfl rfl rfl (a.v 2 k3_2) (bwb b3_0 c) Try.underlying110 rfl (by kernel_rfl) rfl,
  fun f s W c d j k l a => opm (a.v 1 k3_1),
  fun f s W c d j k l a => by have m := bwt fB3 c; exact opd rfl rfl (by simp [go_sem, a.e 16 (d 0 rfl), a.e 17 (d 1 rfl)]) (isPattern_any p os bo oo no co ax nx cx xs W (hO.below m) hp ho gno (hX.below m (Nat.le_refl _)) gxs (by omega)) ((fun e W' h => by have h1 := h.1; rw [gnx, hpat] at h1; exact ⟨_, h1, h.2, rfl⟩)),
  fun f s W c d j k l a => opv rfl rfl (by simp [go_sem, a.e 18 (d 2 rfl)]) rfl,
  fun f s W c d j k l a => opm (a.v 19 (d 3 rfl)), trivial⟩ ?_
 intro f4 s4 W4 hB4 g4 hg4 z4
 have k4_15 := kt hg4 15 (hB4.is 4)
 refine wp_cond_false ((fr_eval rfl).trans k4_15) ?_
 refine wp_skip ?_
 refine ibn ?_
 refine hK2 _ _ ?_
 refine rw_ 1 [(4, 0)] [[]] (rel [iI 0])
  ⟨fun f s W c d j k l a => opz, trivial⟩ ?_
 intro f5 s5 W5 hB5 g5 hg5 z5
 have fB5 := hB5.f (hB4.f fB3)
 have k5_4 := kt hg5 4 (hB5.is 0)
 refine wp_ret ?_
 refine leave_one (N := 20) (.inr rfl) Try.results122 rfl k5_4 ?_
 exact ⟨rfl, fB5⟩
end Go.Proofs.Ytcgccflcjejlhaa
