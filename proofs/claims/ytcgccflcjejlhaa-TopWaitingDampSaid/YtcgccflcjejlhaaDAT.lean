/- Part of the proof: what the claim leans on. -/
import Derived.Test.YtcgccflcjejlhaaDAP
set_option linter.unusedSimpArgs false
set_option linter.unusedVariables false
namespace Go.Proofs.Ytcgccflcjejlhaa
open Go.RowKit
set_option maxRecDepth 100000 in
set_option maxHeartbeats 400000 in
theorem plus_any (sm en n : Int) (j : Fj) (ja : Option Addr) (jn jc : Nat) (w : World) (g1 : 0 ≤ sm ∧ sm ≤ 1000000) (g2 : 0 ≤ n ∧ n ≤ 1000000) (g3 : 0 ≤ j.du ∧ j.du ≤ 1000000) :
  Calls Try.prog 57 #[.agg #[.int .i64 sm, .int .i64 en], .agg #[.int .i64 ((j.kd : Int)), .int .i64 j.rd, .int .i64 j.du, .slice (ja) (jn) (jc)], .int .i64 n] w (fun e w' => e = .returned (.agg #[.int .i64 (sm + max 0 (n - j.du)), .int .i64 (max en n)]) ∧ Below w.heap.size w w') := by
 refine calls_fr Try.func57 Try.ntmps57 rfl rfl fun g hg => ?_
 have k0 : g 0 = .agg #[.int .i64 sm, .int .i64 en] := hg 0
 have k1 : g 1 = .agg #[.int .i64 ((j.kd : Int)), .int .i64 j.rd, .int .i64 j.du, .slice (ja) (jn) (jc)] := hg 1
 have k2 : g 2 = .int .i64 n := hg 2
 clear hg
 have fB0 : Below w.heap.size w w := Below.refl _ _
 refine wp_seq_k fun K1 hK1 => ?_
 refine region_dk 3 [(3, 0), (4, 1), (6, 2)] [[], [], []] (rel [bx 0 #[.int .i64 sm, .int .i64 en] 159,
   bx 1 #[.int .i64 ((j.kd : Int)), .int .i64 j.rd, .int .i64 j.du, .slice (ja) (jn) (jc)] 32,
   bx 2 #[.int .i64 0, .int .i64 0] 159])
  ⟨bx_k, bx_k, bx_k, trivial⟩
  ⟨fun f s W c d h i k a => opb rfl rfl (by simp [go_sem, a.e 0 k0]),
  fun f s W c d h i k a => opb rfl rfl (by simp [go_sem, a.e 1 k1]),
  fun f s W c d h i k a => opb rfl rfl (by simp [go_sem]), trivial⟩ ?_
 intro f1 s1 W1 hB1 g1 hg1
 have fB1 := hB1.f fB0
 have z1 := hB1.below.size
 obtain ⟨r1_0, br1_0⟩ := hB1.is 0
 have lr1_0 := hB1.lr 0 br1_0
 obtain ⟨r1_1, br1_1⟩ := hB1.is 1
 have lr1_1 := hB1.lr 1 br1_1
 obtain ⟨r1_2, br1_2⟩ := hB1.is 2
 have lr1_2 := hB1.lr 2 br1_2
 have ne1_0_1 := hB1.nb 0 1
 have ne1_0_2 := hB1.nb 0 2
 have ne1_1_2 := hB1.nb 1 2
 refine hK1 _ _ ?_
 have k1_2 := kt hg1 2 k2
 have k1_3 := kt hg1 3 r1_0
 have k1_4 := kt hg1 4 r1_1
 have k1_6 := kt hg1 6 r1_2
 refine wp_seq_k fun K2 hK2 => ?_
 refine region_dk 13 [(7, 0), (8, 1), (9, 2), (10, 3), (11, 4), (12, 5), (13, 6), (14, 7), (15, 8), (16, 9), (17, 10), (18, 11), (19, 12)] [[], [0], [], [], [3], [2, 3, 4], [2, 3, 4, 5], [0, 1, 2, 3, 4, 5, 6], [], [8], [], [8, 9, 10], [0, 1, 2, 3, 4, 5, 6, 7, 8, 9, 10, 11], [0, 1, 2, 3, 4, 5, 6, 7, 8, 9, 10, 11, 12]] (rel [is (.pointer (some ⟨(s1 0), 0, none⟩)),
   is (.int .i64 sm),
   is (.int .i64 n),
   is (.pointer (some ⟨(s1 1), 2, none⟩)),
   is (.int .i64 j.du),
   is (.int .i64 (n - j.du)),
   is (.int .i64 (max 0 (n - j.du))),
   is (.int .i64 (sm + (max 0 (n - j.du)))),
   is (.pointer (some ⟨(s1 0), 1, none⟩)),
   is (.int .i64 en),
   is (.int .i64 n),
   is (.int .i64 (max en n)),
   is (.agg #[.int .i64 (sm + (max 0 (n - j.du))), .int .i64 (max en n)])])
  ⟨is_k, is_k, is_k, is_k, is_k, is_k, is_k, is_k, is_k, is_k, is_k, is_k, is_k, trivial⟩
  ⟨fun f s W c d h i k a => opv rfl rfl (by simp [go_sem, a.e 3 k1_3]) rfl,
  fun f s W c d h i k a => opv rfl rfl (by simp [go_sem, a.e 7 (d 0 rfl), cb br1_0 c 0]) rfl,
  fun f s W c d h i k a => opv rfl rfl (by simp [go_sem, a.e 2 k1_2]) rfl,
  fun f s W c d h i k a => opv rfl rfl (by simp [go_sem, a.e 4 k1_4]) rfl,
  fun f s W c d h i k a => opv rfl rfl (by simp [go_sem, a.e 10 (d 3 rfl), cb br1_1 c 2]) rfl,
  fun f s W c d h i k a => opv rfl rfl (by simp [go_sem, a.e 9 (d 2 rfl), a.e 11 (d 4 rfl), IntWalk.i64_in (n - j.du) (by omega)]) rfl,
  fun f s W c d h i k a => opv rfl rfl (by simp [go_sem, a.e 12 (d 5 rfl)]) rfl,
  fun f s W c d h i k a => opv rfl rfl (by simp [go_sem, a.e 8 (d 1 rfl), a.e 13 (d 6 rfl), IntWalk.i64_in (sm + (max 0 (n - j.du))) (by omega)]) rfl,
  fun f s W c d h i k a => opv rfl rfl (by simp [go_sem, a.e 3 k1_3]) rfl,
  fun f s W c d h i k a => opv rfl rfl (by simp [go_sem, a.e 15 (d 8 rfl), cb br1_0 c 1]) rfl,
  fun f s W c d h i k a => opv rfl rfl (by simp [go_sem, a.e 2 k1_2]) rfl,
  fun f s W c d h i k a => opv rfl rfl (by simp [go_sem, a.e 16 (d 9 rfl), a.e 17 (d 10 rfl)]) rfl,
  fun f s W c d h i k a => opv rfl rfl (by simp [go_sem, a.e 14 (d 7 rfl), a.e 18 (d 11 rfl)]) rfl, trivial⟩ ?_
 intro f2 s2 W2 hB2 g2 hg2
 have fB2 := hB2.f fB1
 have z2 := hB2.below.size
 have b2_0 := hB2.b br1_0
 have b2_1 := hB2.b br1_1
 have b2_2 := hB2.b br1_2
 have k2_6 := kt hg2 6 k1_6
 have k2_19 := kt hg2 19 (hB2.is 12)
 obtain ⟨W3, hW3⟩ : ∃ W', W' = W2.setRow (s1 2) #[.int .i64 (sm + (max 0 (n - j.du))), .int .i64 (max en n)] := ⟨_, rfl⟩
 refine tail_skip (o := _) rfl ⟨rfl, rfl⟩ (run_seg hW3 (fr_ev k2_6) (fr_ev k2_19) b2_2 rfl rfl rfl rfl) ?_
 obtain ⟨fB3, nb3, ot3, z3⟩ := seg_facts hW3 fB2 b2_2 (by omega)
 clear hW3
 have b3_0 := ot3 _ _ (by omega) b2_0
 have b3_1 := ot3 _ _ (by omega) b2_1
 refine wpOps_end ?_
 refine hK2 _ _ ?_
 refine wp_ret ?_
 refine leave_gen (v := .agg #[.int .i64 (sm + (max 0 (n - j.du))), .int .i64 (max en n)]) (.inr rfl) (by simp [results, Try.results57, go_sem, frv 20 k2_6, cl nb3 0, cl nb3 1]) ?_
 exact ⟨rfl, fB3⟩
def IsOne (v : Value) (W : World) : Prop := ∃ a c, v = .slice a 1 c
set_option maxRecDepth 100000 in
set_option maxHeartbeats 8000000 in
theorem late_3 (nm ns : Nat) (CH : List (List Int)) (x : Fs) (js : Nat → Fj) (bc oc cc bs os_ sc bj oj cj : Nat) (sa : Option Addr) (adc : Nat → Option Addr) (kpc : Nat → Nat) (adj : Nat → Option Addr) (kpj : Nat → Nat) (od : Nat → Nat) (ao : Option Addr) (no co : Nat) (xs : List Int) (w : World) (hF : FlOk nm ns 3 CH x js) (hM : FlR nm ns 3 CH js x bc oc bs os_ bj oj sa adc kpc adj kpj w) (hX : Ii w ao no co xs) (hno : no = 3) (hod : ∀ i, i < 3 → elT xs i = ((od i : Nat) : Int) ∧ od i < 3) (hsort : (xs.mergeSort fun x y => decide (x ≤ y)) = (List.range 3).map (fun i : Nat => (i : Int))) (hsur : ∀ k, k < 3 → ∃ j, j < 3 ∧ od j = k) (hen0 : (runF (freeK ns x) (chK CH) nm js od 3).en 0 = 110) (hen1 : (runF (freeK ns x) (chK CH) nm js od 3).en 1 = 40) (hen2 : (runF (freeK ns x) (chK CH) nm js od 3).en 2 = 80) (hd0 : (js 0).du = 100) (hd1 : (js 1).du = 90) (hd2 : (js 2).du = 130) :
  Calls Try.prog 58 #[.agg #[.int .i64 ((nm : Int)), .slice (some ⟨bc, oc, none⟩) (2) (cc), .slice (sa) (ns) (sc), .slice (some ⟨bj, oj, none⟩) (3) (cj)], .slice (ao) (no) (co)] w (fun e w' => ∃ v, e = .returned v ∧ IsOne v w' ∧ Below w.heap.size w w') := by
 refine calls_fr Try.func58 Try.ntmps58 rfl rfl fun g hg => ?_
 have k0 : g 0 = .agg #[.int .i64 ((nm : Int)), .slice (some ⟨bc, oc, none⟩) (2) (cc), .slice (sa) (ns) (sc), .slice (some ⟨bj, oj, none⟩) (3) (cj)] := hg 0
 have k1 : g 1 = .slice (ao) (no) (co) := hg 1
 clear hg
 have fB0 : Below w.heap.size w w := Below.refl _ _
 refine wp_seq_k fun K1 hK1 => ?_
 refine region_dk 2 [(2, 0), (4, 1)] [[], []] (rel [bx 0 #[.int .i64 ((nm : Int)), .slice (some ⟨bc, oc, none⟩) (2) (cc), .slice (sa) (ns) (sc), .slice (some ⟨bj, oj, none⟩) (3) (cj)] 94,
   is (.slice (none) (0) (0))])
  ⟨bx_k, is_k, trivial⟩
  ⟨fun f s W c l m n p a => opb rfl rfl (by simp [go_sem, a.e 0 k0]),
  fun f s W c l m n p a => opv rfl rfl (by simp [go_sem]) rfl, trivial⟩ ?_
 intro f1 s1 W1 hB1 g1 hg1
 have fB1 := hB1.f fB0
 have z1 := hB1.below.size
 obtain ⟨r1_0, br1_0⟩ := hB1.is 0
 have lr1_0 := hB1.lr 0 br1_0
 refine hK1 _ _ ?_
 have k1_1 := kt hg1 1 k1
 have k1_2 := kt hg1 2 r1_0
 have k1_4 := kt hg1 4 (hB1.is 1)
 refine wp_seq_k fun K2 hK2 => ?_
 refine wp_seq_k fun K3 hK3 => ?_
 refine fl_region_seq ?_
 show wpOps _ _ _ (List.range' 0 6) _ _
 refine tail_value (o := _) rfl rfl rfl (v := .agg #[.int .i64 ((nm : Int)), .slice (some ⟨bc, oc, none⟩) (2) (cc), .slice (sa) (ns) (sc), .slice (some ⟨bj, oj, none⟩) (3) (cj)]) (by simp [go_sem, frv 31 k1_2, cl br1_0 0, cl br1_0 1, cl br1_0 2, cl br1_0 3]) ?_
 generalize hg2 : upd g1 7 (.agg #[.int .i64 ((nm : Int)), .slice (some ⟨bc, oc, none⟩) (2) (cc), .slice (sa) (ns) (sc), .slice (some ⟨bj, oj, none⟩) (3) (cj)]) = g2
 have k2_1 := ku hg2 1 k1_1
 have k2_2 := ku hg2 2 k1_2
 have k2_4 := ku hg2 4 k1_4
 have k2_7 := kt hg2 7 (upd_same _ _ _)
 refine tail_value (o := _) rfl rfl rfl (v := .slice (ao) (no) (co)) (by simp [go_sem, frv 31 k2_1]) ?_
 generalize hg3 : upd g2 8 (.slice (ao) (no) (co)) = g3
 have k3_2 := ku hg3 2 k2_2
 have k3_4 := ku hg3 4 k2_4
 have k3_7 := ku hg3 7 k2_7
 have k3_8 := kt hg3 8 (upd_same _ _ _)
 refine tail_call (o := _) (d := 9) rfl rfl rfl (by simp [go_sem, frv 31 k3_7, frv 31 k3_8]) (run_3 nm ns CH x js bc oc cc bs os_ sc bj oj cj sa adc kpc adj kpj od ao no co xs W1 (hF) (hM.below fB1) (hX.below fB1 (Nat.le_refl _)) hno hod) ?_ (fun _ h => by obtain ⟨_, _, _, h, _⟩ := h; cases h) (fun _ _ h => by obtain ⟨_, _, _, h, _⟩ := h; cases h)
 have lx4_0 := lt_of_blk br1_0
 rintro v_ W4 ⟨bS4, bE4, V4, rv4, h1_4, h2_4, lS4, lE4, hb4⟩
 obtain rfl := Ending.returned.inj rv4
 have fB4 := below_trans fB1 hb4
 have b4_0 := blk_below br1_0 hb4
 have i1_4 := h1_4.all hsur
 generalize hg4 : upd g3 9 (.agg #[.slice (some ⟨bS4, 0, none⟩) (3) (3), .slice (some ⟨bE4, 0, none⟩) (3) (3)]) = g4
 have k4_2 := ku hg4 2 k3_2
 have k4_4 := ku hg4 4 k3_4
 have k4_9 := kt hg4 9 (upd_same _ _ _)
 have fx5 : ∀ W : World, (Instr.field 98 (.agg #[.slice (some ⟨bS4, 0, none⟩) (3) (3), .slice (some ⟨bE4, 0, none⟩) (3) (3)]) 1).run Try.prog W = .ok (.slice (some ⟨bE4, 0, none⟩) (3) (3)) W := fun W => (by kernel_rfl)
 refine tail_value (o := _) rfl rfl rfl (v := .slice (some ⟨bE4, 0, none⟩) (3) (3)) (by simp [go_sem, frv 31 k4_9, fx5]) ?_
 generalize hg5 : upd g4 10 (.slice (some ⟨bE4, 0, none⟩) (3) (3)) = g5
 have k5_2 := ku hg5 2 k4_2
 have k5_4 := ku hg5 4 k4_4
 have k5_10 := kt hg5 10 (upd_same _ _ _)
 refine tail_value (o := _) rfl rfl rfl (v := .int .i64 3) (by simp [go_sem, frv 31 k5_10]) ?_
 generalize hg6 : upd g5 11 (.int .i64 3) = g6
 have k6_2 := ku hg6 2 k5_2
 have k6_4 := ku hg6 4 k5_4
 have k6_10 := ku hg6 10 k5_10
 have k6_11 := kt hg6 11 (upd_same _ _ _)
 refine tail_value (o := _) rfl rfl rfl (v := .int .i64 0) (by simp [go_sem]) ?_
 generalize hg7 : upd g6 12 (.int .i64 0) = g7
 have k7_2 := ku hg7 2 k6_2
 have k7_4 := ku hg7 4 k6_4
 have k7_10 := ku hg7 10 k6_10
 have k7_11 := ku hg7 11 k6_11
 have k7_12 := kt hg7 12 (upd_same _ _ _)
 refine wpOps_end ?_
 refine hK3 _ _ ?_
 refine wp_block ?_
 refine wp_loop_rounds 4 ?_
 rw [rounds_succ]
 refine wp_seq_k fun K4 hK4 => ?_
 refine region_dk 1 [(13, 0)] [[]] (rel [is (.bool true)])
  ⟨is_k, trivial⟩
  ⟨fun f s W c l m n p a => opv rfl rfl (by simp [go_sem, a.e 12 k7_12, a.e 11 k7_11]) rfl, trivial⟩ ?_
 intro f8 s8 W8 hB8 g8 hg8
 have fB8 := hB8.f fB4
 have z8 := hB8.below.size
 have b8_0 := hB8.b b4_0
 have q1' := (IsSt.below i1_4 hB8.below)
 have q2' := (TabV.below h2_4 hB8.below)
 refine hK4 _ _ ?_
 have k8_2 := kt hg8 2 k7_2
 have k8_4 := kt hg8 4 k7_4
 have k8_10 := kt hg8 10 k7_10
 have k8_11 := kt hg8 11 k7_11
 have k8_12 := kt hg8 12 k7_12
 have k8_13 := kt hg8 13 (hB8.is 0)
 refine wp_seq_k fun K5 hK5 => ?_
 refine wp_cond_true ((fr_eval rfl).trans k8_13) ?_
 refine wp_skip ?_
 refine hK5 _ _ ?_
 refine wp_seq_k fun K7 hK7 => ?_
 refine wp_block ?_
 refine wp_seq_k fun K8 hK8 => ?_
 refine region_dk 5 [(14, 0), (15, 1), (16, 2), (5, 3), (6, 4)] [[], [], [1], [0, 1, 2], [0, 1, 2, 3]] (rel [is (.int .i64 0),
   is (.pointer (some ⟨bE4, 0, none⟩)),
   is (.int .i64 110),
   is (.int .i64 0),
   is (.int .i64 110)])
  ⟨is_k, is_k, is_k, is_k, is_k, trivial⟩
  ⟨fun f s W c l m n p a => opv rfl rfl (by simp [go_sem, a.e 12 k8_12]) rfl,
  fun f s W c l m n p a => opv rfl rfl (by simp [go_sem, a.e 10 k8_10, a.e 12 k8_12]) rfl,
  fun f s W c l m n p a => by have cu_ := ((TabV.below q2' c)).cell (i := 0) (by decide); rw [hen0] at cu_; exact opv rfl rfl (by simp [go_sem, a.e 15 (l 1 rfl), cu_]) rfl,
  fun f s W c l m n p a => opv rfl rfl (by simp [go_sem, a.e 14 (l 0 rfl)]) rfl,
  fun f s W c l m n p a => opv rfl rfl (by simp [go_sem, a.e 16 (l 2 rfl)]) rfl, trivial⟩ ?_
 intro f9 s9 W9 hB9 g9 hg9
 have fB9 := hB9.f fB8
 have z9 := hB9.below.size
 have b9_0 := hB9.b b8_0
 have q3' := (IsSt.below q1' hB9.below)
 have q4' := (TabV.below q2' hB9.below)
 refine hK8 _ _ ?_
 have k9_2 := kt hg9 2 k8_2
 have k9_4 := kt hg9 4 k8_4
 have k9_10 := kt hg9 10 k8_10
 have k9_11 := kt hg9 11 k8_11
 have k9_12 := kt hg9 12 k8_12
 have k9_13 := kt hg9 13 k8_13
 have k9_5 := kt hg9 5 (hB9.is 3)
 have k9_6 := kt hg9 6 (hB9.is 4)
 refine wp_seq_k fun K9 hK9 => ?_
 refine region_dk 8 [(17, 0), (18, 1), (19, 2), (20, 3), (21, 4), (22, 5), (23, 6), (24, 7)] [[], [], [1], [], [1, 2, 3], [1, 2, 3, 4], [1, 2, 3, 4, 5], [0, 1, 2, 3, 4, 5, 6]] (rel [is (.int .i64 110),
   is (.pointer (some ⟨(s1 0), 3, none⟩)),
   is (.slice (some ⟨bj, oj, none⟩) (3) (cj)),
   is (.int .i64 0),
   is (.pointer (some ⟨bj, oj + 0 * 4, none⟩)),
   is (.pointer (some ⟨bj, oj + 0 * 4 + 2, none⟩)),
   is (.int .i64 100),
   is (.bool true)])
  ⟨is_k, is_k, is_k, is_k, is_k, is_k, is_k, is_k, trivial⟩
  ⟨fun f s W c l m n p a => opv rfl rfl (by simp [go_sem, a.e 6 k9_6]) rfl,
  fun f s W c l m n p a => opv rfl rfl (by simp [go_sem, a.e 2 k9_2]) rfl,
  fun f s W c l m n p a => opv rfl rfl (by simp [go_sem, a.e 18 (l 1 rfl), cb b9_0 c 3]) rfl,
  fun f s W c l m n p a => opv rfl rfl (by simp [go_sem, a.e 5 k9_5]) rfl,
  fun f s W c l m n p a => by have li_ := Nat.not_le.2 (show 0 < 3 by decide); exact opv rfl rfl (by simp [go_sem, a.e 19 (l 2 rfl), a.e 20 (l 3 rfl), li_]) rfl,
  fun f s W c l m n p a => opv rfl rfl (by simp [go_sem, a.e 21 (l 4 rfl)]) rfl,
  fun f s W c l m n p a => by have q := below_trans fB9 c; obtain ⟨cu0_, cu1_, cu2_, cu3_, -⟩ := (hM.j.below q).2 0 (by omega); rw [hd0] at cu2_; exact opv rfl rfl (by simp [go_sem, a.e 22 (l 5 rfl), cu2_]) rfl,
  fun f s W c l m n p a => opv rfl rfl (by simp [go_sem, a.e 17 (l 0 rfl), a.e 23 (l 6 rfl)]) rfl, trivial⟩ ?_
 intro f10 s10 W10 hB10 g10 hg10
 have fB10 := hB10.f fB9
 have z10 := hB10.below.size
 have b10_0 := hB10.b b9_0
 have q5' := (IsSt.below q3' hB10.below)
 have q6' := (TabV.below q4' hB10.below)
 refine hK9 _ _ ?_
 have k10_2 := kt hg10 2 k9_2
 have k10_4 := kt hg10 4 k9_4
 have k10_10 := kt hg10 10 k9_10
 have k10_11 := kt hg10 11 k9_11
 have k10_12 := kt hg10 12 k9_12
 have k10_13 := kt hg10 13 k9_13
 have k10_5 := kt hg10 5 k9_5
 have k10_6 := kt hg10 6 k9_6
 have k10_24 := kt hg10 24 (hB10.is 7)
 refine wp_cond_true ((fr_eval rfl).trans k10_24) ?_
 refine region_dk 3 [(25, 0), (26, 1), (27, 2), (28, 3), (4, 4)] [[], [], [1], [0, 1, 2], [0, 1, 2, 3]] (rel [is (.slice (none) (0) (0)),
   is (.int .i64 0),
   row 2 1 #[.int .i64 0] 3])
  ⟨is_k, is_k, row_k, trivial⟩
  ⟨fun f s W c l m n p a => opv rfl rfl (by simp [go_sem, a.e 4 ((n 4 4 rfl rfl).trans k10_4)]) rfl,
  fun f s W c l m n p a => opv rfl rfl (by simp [go_sem, a.e 5 k10_5]) rfl,
  fun f s W c l m n p a => opr rfl rfl (by simp [go_sem, a.e 26 (l 1 rfl)]), trivial⟩ ?_
 intro f11 s11 W11 hB11 g11 hg11
 have fB11 := hB11.f fB10
 have z11 := hB11.below.size
 have b11_0 := hB11.b b10_0
 have q7' := (IsSt.below q5' hB11.below)
 have q8' := (TabV.below q6' hB11.below)
 obtain ⟨r11_2, br11_2⟩ := hB11.is 2
 have lr11_2 := hB11.lr 2 br11_2
 have k11_2 := kt hg11 2 k10_2
 have k11_10 := kt hg11 10 k10_10
 have k11_11 := kt hg11 11 k10_11
 have k11_12 := kt hg11 12 k10_12
 have k11_13 := kt hg11 13 k10_13
 have k11_5 := kt hg11 5 k10_5
 have k11_6 := kt hg11 6 k10_6
 have k11_24 := kt hg11 24 k10_24
 have k11_25 := kt hg11 25 (hB11.is 0)
 have k11_27 := kt hg11 27 r11_2
 obtain ⟨ga12, ca12, W12, ra12, ow12, ot12, z12, gg12, fB12⟩ := growN_tail 25 25 3 1 8 _ (by kernel_rfl) da_infoI rfl (iis [0]) 1 (off := 0) (k := 1) (c' := 1) [.int .i64 (0)] fB11 (ownN_nil (W := W11)) rfl rfl rfl rfl (cells_at br11_2) (by omega)
 refine tail_value2 (o := _) rfl rfl rfl (run_appendOp (fr_ev k11_25) (fr_ev k11_27) ra12) ?_
 have nn12 : ∀ k : Nat, ∀ g, (none : Option Addr) = some ⟨g, 0, none⟩ → g ≠ k := fun _ _ e => nomatch e
 have b12_0 := ot12 _ _ (nn12 _) b11_0
 have en12 : TabV 3 3 (fun k => Value.int .i64 ((runF (freeK ns x) (chK CH) nm js od 3).en k)) bE4 W12 := by obtain ⟨cs_, t1_, t2_⟩ := q8'; exact ⟨cs_, ot12 _ _ (nn12 _) t1_, t2_⟩
 generalize hg12 : upd g11 28 (.slice (some ⟨ga12, 0, none⟩) (1) (ca12)) = g12
 have k12_2 := ku hg12 2 k11_2
 have k12_10 := ku hg12 10 k11_10
 have k12_11 := ku hg12 11 k11_11
 have k12_12 := ku hg12 12 k11_12
 have k12_13 := ku hg12 13 k11_13
 have k12_5 := ku hg12 5 k11_5
 have k12_6 := ku hg12 6 k11_6
 have k12_24 := ku hg12 24 k11_24
 have k12_25 := ku hg12 25 k11_25
 have k12_27 := ku hg12 27 k11_27
 have k12_28 := kt hg12 28 (upd_same _ _ _)
 refine tail_value (o := _) rfl rfl rfl (v := .slice (some ⟨ga12, 0, none⟩) (1) (ca12)) (by simp [go_sem, frv 31 k12_28]) ?_
 generalize hg13 : upd g12 4 (.slice (some ⟨ga12, 0, none⟩) (1) (ca12)) = g13
 have k13_2 := ku hg13 2 k12_2
 have k13_10 := ku hg13 10 k12_10
 have k13_11 := ku hg13 11 k12_11
 have k13_12 := ku hg13 12 k12_12
 have k13_13 := ku hg13 13 k12_13
 have k13_5 := ku hg13 5 k12_5
 have k13_6 := ku hg13 6 k12_6
 have k13_24 := ku hg13 24 k12_24
 have k13_25 := ku hg13 25 k12_25
 have k13_27 := ku hg13 27 k12_27
 have k13_28 := ku hg13 28 k12_28
 have k13_4 := kt hg13 4 (upd_same _ _ _)
 refine wpOps_end ?_
 refine inBlock_normal ?_
 refine hK7 _ _ ?_
 refine region_dk 2 [(29, 0), (12, 1)] [[], [0]] (rel [is (.int .i64 1),
   is (.int .i64 1)])
  ⟨is_k, is_k, trivial⟩
  ⟨fun f s W c l m n p a => opv rfl rfl (by simp [go_sem, a.e 12 ((n 1 12 rfl rfl).trans k13_12), IntWalk.i64_in (1) (by omega)]) rfl,
  fun f s W c l m n p a => opv rfl rfl (by simp [go_sem, a.e 29 (l 0 rfl)]) rfl, trivial⟩ ?_
 intro f14 s14 W14 hB14 g14 hg14
 have fB14 := hB14.f fB12
 have z14 := hB14.below.size
 have b14_0 := hB14.b b12_0
 have q9' := (TabV.below en12 hB14.below)
 refine wpOps_end ?_
 have k14_2 := kt hg14 2 k13_2
 have k14_10 := kt hg14 10 k13_10
 have k14_11 := kt hg14 11 k13_11
 have k14_13 := kt hg14 13 k13_13
 have k14_5 := kt hg14 5 k13_5
 have k14_6 := kt hg14 6 k13_6
 have k14_24 := kt hg14 24 k13_24
 have k14_25 := kt hg14 25 k13_25
 have k14_27 := kt hg14 27 k13_27
 have k14_28 := kt hg14 28 k13_28
 have k14_4 := kt hg14 4 k13_4
 have k14_12 := kt hg14 12 (hB14.is 1)
 refine then_normal ?_
 rw [rounds_succ]
 refine wp_seq_k fun K11 hK11 => ?_
 refine region_dk 1 [(13, 0)] [[]] (rel [is (.bool true)])
  ⟨is_k, trivial⟩
  ⟨fun f s W c l m n p a => opv rfl rfl (by simp [go_sem, a.e 12 k14_12, a.e 11 k14_11]) rfl, trivial⟩ ?_
 intro f15 s15 W15 hB15 g15 hg15
 have fB15 := hB15.f fB14
 have z15 := hB15.below.size
 have b15_0 := hB15.b b14_0
 have q10' := (TabV.below q9' hB15.below)
 refine hK11 _ _ ?_
 have k15_2 := kt hg15 2 k14_2
 have k15_10 := kt hg15 10 k14_10
 have k15_11 := kt hg15 11 k14_11
 have k15_5 := kt hg15 5 k14_5
 have k15_6 := kt hg15 6 k14_6
 have k15_24 := kt hg15 24 k14_24
 have k15_25 := kt hg15 25 k14_25
 have k15_27 := kt hg15 27 k14_27
 have k15_28 := kt hg15 28 k14_28
 have k15_4 := kt hg15 4 k14_4
 have k15_12 := kt hg15 12 k14_12
 have k15_13 := kt hg15 13 (hB15.is 0)
 refine wp_seq_k fun K12 hK12 => ?_
 refine wp_cond_true ((fr_eval rfl).trans k15_13) ?_
 refine wp_skip ?_
 refine hK12 _ _ ?_
 refine wp_seq_k fun K14 hK14 => ?_
 refine wp_block ?_
 refine wp_seq_k fun K15 hK15 => ?_
 refine region_dk 5 [(14, 0), (15, 1), (16, 2), (5, 3), (6, 4)] [[], [], [1], [0, 1, 2], [0, 1, 2, 3]] (rel [is (.int .i64 1),
   is (.pointer (some ⟨bE4, 1, none⟩)),
   is (.int .i64 40),
   is (.int .i64 1),
   is (.int .i64 40)])
  ⟨is_k, is_k, is_k, is_k, is_k, trivial⟩
  ⟨fun f s W c l m n p a => opv rfl rfl (by simp [go_sem, a.e 12 k15_12]) rfl,
  fun f s W c l m n p a => opv rfl rfl (by simp [go_sem, a.e 10 k15_10, a.e 12 k15_12]) rfl,
  fun f s W c l m n p a => by have cu_ := ((TabV.below q10' c)).cell (i := 1) (by decide); rw [hen1] at cu_; exact opv rfl rfl (by simp [go_sem, a.e 15 (l 1 rfl), cu_]) rfl,
  fun f s W c l m n p a => opv rfl rfl (by simp [go_sem, a.e 14 (l 0 rfl)]) rfl,
  fun f s W c l m n p a => opv rfl rfl (by simp [go_sem, a.e 16 (l 2 rfl)]) rfl, trivial⟩ ?_
 intro f16 s16 W16 hB16 g16 hg16
 have fB16 := hB16.f fB15
 have z16 := hB16.below.size
 have b16_0 := hB16.b b15_0
 have q11' := (TabV.below q10' hB16.below)
 refine hK15 _ _ ?_
 have k16_2 := kt hg16 2 k15_2
 have k16_10 := kt hg16 10 k15_10
 have k16_11 := kt hg16 11 k15_11
 have k16_24 := kt hg16 24 k15_24
 have k16_25 := kt hg16 25 k15_25
 have k16_27 := kt hg16 27 k15_27
 have k16_28 := kt hg16 28 k15_28
 have k16_4 := kt hg16 4 k15_4
 have k16_12 := kt hg16 12 k15_12
 have k16_13 := kt hg16 13 k15_13
 have k16_5 := kt hg16 5 (hB16.is 3)
 have k16_6 := kt hg16 6 (hB16.is 4)
 refine wp_seq_k fun K16 hK16 => ?_
 refine region_dk 8 [(17, 0), (18, 1), (19, 2), (20, 3), (21, 4), (22, 5), (23, 6), (24, 7)] [[], [], [1], [], [1, 2, 3], [1, 2, 3, 4], [1, 2, 3, 4, 5], [0, 1, 2, 3, 4, 5, 6]] (rel [is (.int .i64 40),
   is (.pointer (some ⟨(s1 0), 3, none⟩)),
   is (.slice (some ⟨bj, oj, none⟩) (3) (cj)),
   is (.int .i64 1),
   is (.pointer (some ⟨bj, oj + 1 * 4, none⟩)),
   is (.pointer (some ⟨bj, oj + 1 * 4 + 2, none⟩)),
   is (.int .i64 90),
   is (.bool false)])
  ⟨is_k, is_k, is_k, is_k, is_k, is_k, is_k, is_k, trivial⟩
  ⟨fun f s W c l m n p a => opv rfl rfl (by simp [go_sem, a.e 6 k16_6]) rfl,
  fun f s W c l m n p a => opv rfl rfl (by simp [go_sem, a.e 2 k16_2]) rfl,
  fun f s W c l m n p a => opv rfl rfl (by simp [go_sem, a.e 18 (l 1 rfl), cb b16_0 c 3]) rfl,
  fun f s W c l m n p a => opv rfl rfl (by simp [go_sem, a.e 5 k16_5]) rfl,
  fun f s W c l m n p a => by have li_ := Nat.not_le.2 (show 1 < 3 by decide); exact opv rfl rfl (by simp [go_sem, a.e 19 (l 2 rfl), a.e 20 (l 3 rfl), li_]) rfl,
  fun f s W c l m n p a => opv rfl rfl (by simp [go_sem, a.e 21 (l 4 rfl)]) rfl,
  fun f s W c l m n p a => by have q := below_trans fB16 c; obtain ⟨cu0_, cu1_, cu2_, cu3_, -⟩ := (hM.j.below q).2 1 (by omega); rw [hd1] at cu2_; exact opv rfl rfl (by simp [go_sem, a.e 22 (l 5 rfl), cu2_]) rfl,
  fun f s W c l m n p a => opv rfl rfl (by simp [go_sem, a.e 17 (l 0 rfl), a.e 23 (l 6 rfl)]) rfl, trivial⟩ ?_
 intro f17 s17 W17 hB17 g17 hg17
 have fB17 := hB17.f fB16
 have z17 := hB17.below.size
 have b17_0 := hB17.b b16_0
 have q12' := (TabV.below q11' hB17.below)
 refine hK16 _ _ ?_
 have k17_2 := kt hg17 2 k16_2
 have k17_10 := kt hg17 10 k16_10
 have k17_11 := kt hg17 11 k16_11
 have k17_25 := kt hg17 25 k16_25
 have k17_27 := kt hg17 27 k16_27
 have k17_28 := kt hg17 28 k16_28
 have k17_4 := kt hg17 4 k16_4
 have k17_12 := kt hg17 12 k16_12
 have k17_13 := kt hg17 13 k16_13
 have k17_5 := kt hg17 5 k16_5
 have k17_6 := kt hg17 6 k16_6
 have k17_24 := kt hg17 24 (hB17.is 7)
 refine wp_cond_false ((fr_eval rfl).trans k17_24) ?_
 refine wp_skip ?_
 refine inBlock_normal ?_
 refine hK14 _ _ ?_
 refine region_dk 2 [(29, 0), (12, 1)] [[], [0]] (rel [is (.int .i64 2),
   is (.int .i64 2)])
  ⟨is_k, is_k, trivial⟩
  ⟨fun f s W c l m n p a => opv rfl rfl (by simp [go_sem, a.e 12 ((n 1 12 rfl rfl).trans k17_12), IntWalk.i64_in (2) (by omega)]) rfl,
  fun f s W c l m n p a => opv rfl rfl (by simp [go_sem, a.e 29 (l 0 rfl)]) rfl, trivial⟩ ?_
 intro f18 s18 W18 hB18 g18 hg18
 have fB18 := hB18.f fB17
 have z18 := hB18.below.size
 have b18_0 := hB18.b b17_0
 have q13' := (TabV.below q12' hB18.below)
 refine wpOps_end ?_
 have k18_2 := kt hg18 2 k17_2
 have k18_10 := kt hg18 10 k17_10
 have k18_11 := kt hg18 11 k17_11
 have k18_25 := kt hg18 25 k17_25
 have k18_27 := kt hg18 27 k17_27
 have k18_28 := kt hg18 28 k17_28
 have k18_4 := kt hg18 4 k17_4
 have k18_13 := kt hg18 13 k17_13
 have k18_5 := kt hg18 5 k17_5
 have k18_6 := kt hg18 6 k17_6
 have k18_24 := kt hg18 24 k17_24
 have k18_12 := kt hg18 12 (hB18.is 1)
 refine then_normal ?_
 rw [rounds_succ]
 refine wp_seq_k fun K18 hK18 => ?_
 refine region_dk 1 [(13, 0)] [[]] (rel [is (.bool true)])
  ⟨is_k, trivial⟩
  ⟨fun f s W c l m n p a => opv rfl rfl (by simp [go_sem, a.e 12 k18_12, a.e 11 k18_11]) rfl, trivial⟩ ?_
 intro f19 s19 W19 hB19 g19 hg19
 have fB19 := hB19.f fB18
 have z19 := hB19.below.size
 have b19_0 := hB19.b b18_0
 have q14' := (TabV.below q13' hB19.below)
 refine hK18 _ _ ?_
 have k19_2 := kt hg19 2 k18_2
 have k19_10 := kt hg19 10 k18_10
 have k19_11 := kt hg19 11 k18_11
 have k19_25 := kt hg19 25 k18_25
 have k19_27 := kt hg19 27 k18_27
 have k19_28 := kt hg19 28 k18_28
 have k19_4 := kt hg19 4 k18_4
 have k19_5 := kt hg19 5 k18_5
 have k19_6 := kt hg19 6 k18_6
 have k19_24 := kt hg19 24 k18_24
 have k19_12 := kt hg19 12 k18_12
 have k19_13 := kt hg19 13 (hB19.is 0)
 refine wp_seq_k fun K19 hK19 => ?_
 refine wp_cond_true ((fr_eval rfl).trans k19_13) ?_
 refine wp_skip ?_
 refine hK19 _ _ ?_
 refine wp_seq_k fun K21 hK21 => ?_
 refine wp_block ?_
 refine wp_seq_k fun K22 hK22 => ?_
 refine region_dk 5 [(14, 0), (15, 1), (16, 2), (5, 3), (6, 4)] [[], [], [1], [0, 1, 2], [0, 1, 2, 3]] (rel [is (.int .i64 2),
   is (.pointer (some ⟨bE4, 2, none⟩)),
   is (.int .i64 80),
   is (.int .i64 2),
   is (.int .i64 80)])
  ⟨is_k, is_k, is_k, is_k, is_k, trivial⟩
  ⟨fun f s W c l m n p a => opv rfl rfl (by simp [go_sem, a.e 12 k19_12]) rfl,
  fun f s W c l m n p a => opv rfl rfl (by simp [go_sem, a.e 10 k19_10, a.e 12 k19_12]) rfl,
  fun f s W c l m n p a => by have cu_ := ((TabV.below q14' c)).cell (i := 2) (by decide); rw [hen2] at cu_; exact opv rfl rfl (by simp [go_sem, a.e 15 (l 1 rfl), cu_]) rfl,
  fun f s W c l m n p a => opv rfl rfl (by simp [go_sem, a.e 14 (l 0 rfl)]) rfl,
  fun f s W c l m n p a => opv rfl rfl (by simp [go_sem, a.e 16 (l 2 rfl)]) rfl, trivial⟩ ?_
 intro f20 s20 W20 hB20 g20 hg20
 have fB20 := hB20.f fB19
 have z20 := hB20.below.size
 have b20_0 := hB20.b b19_0
 have q15' := (TabV.below q14' hB20.below)
 refine hK22 _ _ ?_
 have k20_2 := kt hg20 2 k19_2
 have k20_10 := kt hg20 10 k19_10
 have k20_11 := kt hg20 11 k19_11
 have k20_25 := kt hg20 25 k19_25
 have k20_27 := kt hg20 27 k19_27
 have k20_28 := kt hg20 28 k19_28
 have k20_4 := kt hg20 4 k19_4
 have k20_24 := kt hg20 24 k19_24
 have k20_12 := kt hg20 12 k19_12
 have k20_13 := kt hg20 13 k19_13
 have k20_5 := kt hg20 5 (hB20.is 3)
 have k20_6 := kt hg20 6 (hB20.is 4)
 refine wp_seq_k fun K23 hK23 => ?_
 refine region_dk 8 [(17, 0), (18, 1), (19, 2), (20, 3), (21, 4), (22, 5), (23, 6), (24, 7)] [[], [], [1], [], [1, 2, 3], [1, 2, 3, 4], [1, 2, 3, 4, 5], [0, 1, 2, 3, 4, 5, 6]] (rel [is (.int .i64 80),
   is (.pointer (some ⟨(s1 0), 3, none⟩)),
   is (.slice (some ⟨bj, oj, none⟩) (3) (cj)),
   is (.int .i64 2),
   is (.pointer (some ⟨bj, oj + 2 * 4, none⟩)),
   is (.pointer (some ⟨bj, oj + 2 * 4 + 2, none⟩)),
   is (.int .i64 130),
   is (.bool false)])
  ⟨is_k, is_k, is_k, is_k, is_k, is_k, is_k, is_k, trivial⟩
  ⟨fun f s W c l m n p a => opv rfl rfl (by simp [go_sem, a.e 6 k20_6]) rfl,
  fun f s W c l m n p a => opv rfl rfl (by simp [go_sem, a.e 2 k20_2]) rfl,
  fun f s W c l m n p a => opv rfl rfl (by simp [go_sem, a.e 18 (l 1 rfl), cb b20_0 c 3]) rfl,
  fun f s W c l m n p a => opv rfl rfl (by simp [go_sem, a.e 5 k20_5]) rfl,
  fun f s W c l m n p a => by have li_ := Nat.not_le.2 (show 2 < 3 by decide); exact opv rfl rfl (by simp [go_sem, a.e 19 (l 2 rfl), a.e 20 (l 3 rfl), li_]) rfl,
  fun f s W c l m n p a => opv rfl rfl (by simp [go_sem, a.e 21 (l 4 rfl)]) rfl,
  fun f s W c l m n p a => by have q := below_trans fB20 c; obtain ⟨cu0_, cu1_, cu2_, cu3_, -⟩ := (hM.j.below q).2 2 (by omega); rw [hd2] at cu2_; exact opv rfl rfl (by simp [go_sem, a.e 22 (l 5 rfl), cu2_]) rfl,
  fun f s W c l m n p a => opv rfl rfl (by simp [go_sem, a.e 17 (l 0 rfl), a.e 23 (l 6 rfl)]) rfl, trivial⟩ ?_
 intro f21 s21 W21 hB21 g21 hg21
 have fB21 := hB21.f fB20
 have z21 := hB21.below.size
 have b21_0 := hB21.b b20_0
 have q16' := (TabV.below q15' hB21.below)
 refine hK23 _ _ ?_
 have k21_2 := kt hg21 2 k20_2
 have k21_10 := kt hg21 10 k20_10
 have k21_11 := kt hg21 11 k20_11
 have k21_25 := kt hg21 25 k20_25
 have k21_27 := kt hg21 27 k20_27
 have k21_28 := kt hg21 28 k20_28
 have k21_4 := kt hg21 4 k20_4
 have k21_12 := kt hg21 12 k20_12
 have k21_13 := kt hg21 13 k20_13
 have k21_5 := kt hg21 5 k20_5
 have k21_6 := kt hg21 6 k20_6
 have k21_24 := kt hg21 24 (hB21.is 7)
 refine wp_cond_false ((fr_eval rfl).trans k21_24) ?_
 refine wp_skip ?_
 refine inBlock_normal ?_
 refine hK21 _ _ ?_
 refine region_dk 2 [(29, 0), (12, 1)] [[], [0]] (rel [is (.int .i64 3),
   is (.int .i64 3)])
  ⟨is_k, is_k, trivial⟩
  ⟨fun f s W c l m n p a => opv rfl rfl (by simp [go_sem, a.e 12 ((n 1 12 rfl rfl).trans k21_12), IntWalk.i64_in (3) (by omega)]) rfl,
  fun f s W c l m n p a => opv rfl rfl (by simp [go_sem, a.e 29 (l 0 rfl)]) rfl, trivial⟩ ?_
 intro f22 s22 W22 hB22 g22 hg22
 have fB22 := hB22.f fB21
 have z22 := hB22.below.size
 have b22_0 := hB22.b b21_0
 have q17' := (TabV.below q16' hB22.below)
 refine wpOps_end ?_
 have k22_2 := kt hg22 2 k21_2
 have k22_10 := kt hg22 10 k21_10
 have k22_11 := kt hg22 11 k21_11
 have k22_25 := kt hg22 25 k21_25
 have k22_27 := kt hg22 27 k21_27
 have k22_28 := kt hg22 28 k21_28
 have k22_4 := kt hg22 4 k21_4
 have k22_13 := kt hg22 13 k21_13
 have k22_5 := kt hg22 5 k21_5
 have k22_6 := kt hg22 6 k21_6
 have k22_24 := kt hg22 24 k21_24
 have k22_12 := kt hg22 12 (hB22.is 1)
 refine then_normal ?_
 rw [rounds_succ]
 refine wp_seq_k fun K25 hK25 => ?_
 refine region_dk 1 [(13, 0)] [[]] (rel [is (.bool false)])
  ⟨is_k, trivial⟩
  ⟨fun f s W c l m n p a => opv rfl rfl (by simp [go_sem, a.e 12 k22_12, a.e 11 k22_11]) rfl, trivial⟩ ?_
 intro f23 s23 W23 hB23 g23 hg23
 have fB23 := hB23.f fB22
 have z23 := hB23.below.size
 have b23_0 := hB23.b b22_0
 have q18' := (TabV.below q17' hB23.below)
 refine hK25 _ _ ?_
 have k23_2 := kt hg23 2 k22_2
 have k23_10 := kt hg23 10 k22_10
 have k23_11 := kt hg23 11 k22_11
 have k23_25 := kt hg23 25 k22_25
 have k23_27 := kt hg23 27 k22_27
 have k23_28 := kt hg23 28 k22_28
 have k23_4 := kt hg23 4 k22_4
 have k23_5 := kt hg23 5 k22_5
 have k23_6 := kt hg23 6 k22_6
 have k23_24 := kt hg23 24 k22_24
 have k23_12 := kt hg23 12 k22_12
 have k23_13 := kt hg23 13 (hB23.is 0)
 refine wp_seq_k fun K26 hK26 => ?_
 refine wp_cond_false ((fr_eval rfl).trans k23_13) ?_
 refine wp_exit ?_
 refine then_exit ?_
 refine then_exit ?_
 refine inBlock_at ?_
 refine hK2 _ _ ?_
 refine wp_seq_k fun K28 hK28 => ?_
 refine region_dk 2 [(30, 0), (4, 1)] [[], [0]] (rel [is (.slice (some ⟨ga12, 0, none⟩) (1) (ca12)),
   is (.slice (some ⟨ga12, 0, none⟩) (1) (ca12))])
  ⟨is_k, is_k, trivial⟩
  ⟨fun f s W c l m n p a => opv rfl rfl (by simp [go_sem, a.e 4 ((n 1 4 rfl rfl).trans k23_4)]) rfl,
  fun f s W c l m n p a => opv rfl rfl (by simp [go_sem, a.e 30 (l 0 rfl)]) rfl, trivial⟩ ?_
 intro f24 s24 W24 hB24 g24 hg24
 have fB24 := hB24.f fB23
 have z24 := hB24.below.size
 have b24_0 := hB24.b b23_0
 have q19' := (TabV.below q18' hB24.below)
 refine hK28 _ _ ?_
 have k24_4 := kt hg24 4 (hB24.is 1)
 refine wp_ret ?_
 refine leave_one (N := 31) (v := .slice (some ⟨ga12, 0, none⟩) (1) (ca12)) (.inr rfl) Try.results58 rfl k24_4 ?_
 exact ⟨_, rfl, ⟨_, _, rfl⟩, fB24⟩
set_option maxRecDepth 100000 in
set_option maxHeartbeats 16000000 in
theorem Late_3 (nm ns : Nat) (CH : List (List Int)) (x : Fs) (js : Nat → Fj) (bc oc cc bs os_ sc bj oj cj : Nat) (sa : Option Addr) (adc : Nat → Option Addr) (kpc : Nat → Nat) (adj : Nat → Option Addr) (kpj : Nat → Nat) (od : Nat → Nat) (ao : Option Addr) (no co : Nat) (xs : List Int) (w : World) (hF : FlOk nm ns 3 CH x js) (hM : FlR nm ns 3 CH js x bc oc bs os_ bj oj sa adc kpc adj kpj w) (hX : Ii w ao no co xs) (hno : no = 3) (hod : ∀ i, i < 3 → elT xs i = ((od i : Nat) : Int) ∧ od i < 3) (hsort : (xs.mergeSort fun x y => decide (x ≤ y)) = (List.range 3).map (fun i : Nat => (i : Int))) (hsur : ∀ k, k < 3 → ∃ j, j < 3 ∧ od j = k) (hen0 : (runF (freeK ns x) (chK CH) nm js od 3).en 0 = 110) (hen1 : (runF (freeK ns x) (chK CH) nm js od 3).en 1 = 40) (hen2 : (runF (freeK ns x) (chK CH) nm js od 3).en 2 = 80) (hd0 : (js 0).du = 100) (hd1 : (js 1).du = 90) (hd2 : (js 2).du = 130) :
  Calls Try.prog 28 #[.agg #[.int .i64 ((nm : Int)), .slice (some ⟨bc, oc, none⟩) (2) (cc), .slice (sa) (ns) (sc)], .slice (some ⟨bj, oj, none⟩) (3) (cj), .slice (ao) (no) (co)] w (fun e w' => e = .returned (.tuple #[.int .i64 1, .int .i64 10, .int .i64 110, .int .i64 0]) ∧ Below w.heap.size w w') := by
 have hjd_ := hF.jd
 refine calls_fr Try.func28 Try.ntmps28 rfl rfl fun g hg => ?_
 have k0 : g 0 = .agg #[.int .i64 ((nm : Int)), .slice (some ⟨bc, oc, none⟩) (2) (cc), .slice (sa) (ns) (sc)] := hg 0
 have k1 : g 1 = .slice (some ⟨bj, oj, none⟩) (3) (cj) := hg 1
 have k2 : g 2 = .slice (ao) (no) (co) := hg 2
 clear hg
 have fB0 : Below w.heap.size w w := Below.refl _ _
 refine wp_seq_k fun K1 hK1 => ?_
 refine region_dk 5 [(3, 0), (6, 1), (7, 2), (8, 3), (9, 4)] [[], [], [1], [1, 2], [1, 2, 3]] (rel [bx 0 #[.int .i64 ((nm : Int)), .slice (some ⟨bc, oc, none⟩) (2) (cc), .slice (sa) (ns) (sc)] 29,
   is (.int .i64 0),
   is (.int .i64 0),
   is (.int .i64 0),
   is (.int .i64 0)])
  ⟨bx_k, is_k, is_k, is_k, is_k, trivial⟩
  ⟨fun f s W c l m n p a => opb rfl rfl (by simp [go_sem, a.e 0 k0]),
  fun f s W c l m n p a => opv rfl rfl (by simp [go_sem]) rfl,
  fun f s W c l m n p a => opv rfl rfl (by simp [go_sem]) rfl,
  fun f s W c l m n p a => opv rfl rfl (by simp [go_sem]) rfl,
  fun f s W c l m n p a => opv rfl rfl (by simp [go_sem]) rfl, trivial⟩ ?_
 intro f1 s1 W1 hB1 g1 hg1
 have fB1 := hB1.f fB0
 have z1 := hB1.below.size
 obtain ⟨r1_0, br1_0⟩ := hB1.is 0
 have lr1_0 := hB1.lr 0 br1_0
 refine hK1 _ _ ?_
 have k1_1 := kt hg1 1 k1
 have k1_2 := kt hg1 2 k2
 have k1_3 := kt hg1 3 r1_0
 have k1_6 := kt hg1 6 (hB1.is 1)
 have k1_7 := kt hg1 7 (hB1.is 2)
 have k1_8 := kt hg1 8 (hB1.is 3)
 have k1_9 := kt hg1 9 (hB1.is 4)
 refine wp_seq_k fun K2 hK2 => ?_
 refine region_dk 8 [(15, 0), (16, 1), (17, 2), (18, 3), (14, 4), (19, 5), (20, 6), (10, 7), (9, 9)] [[], [], [], [0, 1, 2], [0, 1, 2, 3], [0, 1, 2, 3, 4], [0, 1, 2, 3, 4], [], [0, 1, 2, 3, 4, 5, 7], [0, 1, 2, 3, 4, 5, 6, 7, 8]] (rel [is (.agg #[.int .i64 ((nm : Int)), .slice (some ⟨bc, oc, none⟩) (2) (cc), .slice (sa) (ns) (sc)]),
   is (.slice (some ⟨bj, oj, none⟩) (3) (cj)),
   is (.slice (ao) (no) (co)),
   is (.tuple #[.agg #[.int .i64 ((nm : Int)), .slice (some ⟨bc, oc, none⟩) (2) (cc), .slice (sa) (ns) (sc), .slice (some ⟨bj, oj, none⟩) (3) (cj)], .int .i64 0]),
   is (.tuple #[.agg #[.int .i64 ((nm : Int)), .slice (some ⟨bc, oc, none⟩) (2) (cc), .slice (sa) (ns) (sc), .slice (some ⟨bj, oj, none⟩) (3) (cj)], .int .i64 0]),
   is (.agg #[.int .i64 ((nm : Int)), .slice (some ⟨bc, oc, none⟩) (2) (cc), .slice (sa) (ns) (sc), .slice (some ⟨bj, oj, none⟩) (3) (cj)]),
   is (.int .i64 0),
   bx 7 #[.int .i64 0, .slice (none) (0) (0), .slice (none) (0) (0), .slice (none) (0) (0)] 94])
  ⟨is_k, is_k, is_k, is_k, is_k, is_k, is_k, bx_k, trivial⟩
  ⟨fun f s W c l m n p a => opv rfl rfl (by simp [go_sem, a.e 3 k1_3, cb br1_0 c 0, cb br1_0 c 1, cb br1_0 c 2]) rfl,
  fun f s W c l m n p a => opv rfl rfl (by simp [go_sem, a.e 1 k1_1]) rfl,
  fun f s W c l m n p a => opv rfl rfl (by simp [go_sem, a.e 2 k1_2]) rfl,
  fun f s W c l m n p a => by have q := below_trans fB1 c; exact opc (args := #[.agg #[.int .i64 ((nm : Int)), .slice (some ⟨bc, oc, none⟩) (2) (cc), .slice (sa) (ns) (sc)], .slice (some ⟨bj, oj, none⟩) (3) (cj), .slice (ao) (no) (co)]) rfl rfl (by simp [go_sem, a.e 15 (l 0 rfl), a.e 16 (l 1 rfl), a.e 17 (l 2 rfl)]) (fl_order nm ns 3 CH x js bc oc cc bs os_ sc bj oj cj sa adc kpc adj kpj W hF (hM.below q) od ao no co xs (hX.below q (Nat.le_refl _)) hno hsort (by decide)),
  fun f s W c l m n p a => opv rfl rfl (by simp [go_sem, a.e 18 (l 3 rfl)]) rfl,
  fun f s W c l m n p a => opv rfl rfl (by simp [go_sem, a.e 14 (l 4 rfl)]) rfl,
  fun f s W c l m n p a => opv rfl rfl (by simp [go_sem, a.e 14 (l 4 rfl)]) rfl,
  fun f s W c l m n p a => opb rfl rfl (by simp [go_sem]), trivial⟩ ?_
 intro f2 s2 W2 hB2 g2 hg2
 have fB2 := hB2.f fB1
 have z2 := hB2.below.size
 have b2_0 := hB2.b br1_0
 obtain ⟨r2_7, br2_7⟩ := hB2.is 7
 have lr2_7 := hB2.lr 7 br2_7
 have k2_1 := kt hg2 1 k1_1
 have k2_2 := kt hg2 2 k1_2
 have k2_6 := kt hg2 6 k1_6
 have k2_7 := kt hg2 7 k1_7
 have k2_8 := kt hg2 8 k1_8
 have k2_19 := kt hg2 19 (hB2.is 5)
 have k2_20 := kt hg2 20 (hB2.is 6)
 have k2_10 := kt hg2 10 r2_7
 obtain ⟨W3, hW3⟩ : ∃ W', W' = W2.setRow (s2 7) #[.int .i64 ((nm : Int)), .slice (some ⟨bc, oc, none⟩) (2) (cc), .slice (sa) (ns) (sc), .slice (some ⟨bj, oj, none⟩) (3) (cj)] := ⟨_, rfl⟩
 refine tail_skip (o := _) rfl ⟨rfl, rfl⟩ (run_seg hW3 (fr_ev k2_10) (fr_ev k2_19) br2_7 rfl rfl rfl rfl) ?_
 obtain ⟨fB3, nb3, ot3, z3⟩ := seg_facts hW3 fB2 br2_7 (by omega)
 clear hW3
 have b3_0 := ot3 _ _ (by omega) b2_0
 refine tail_value (o := _) rfl rfl rfl (v := .int .i64 0) (by simp [go_sem, frv 50 k2_20]) ?_
 generalize hg4 : upd g2 9 (.int .i64 0) = g4
 have k4_1 := ku hg4 1 k2_1
 have k4_2 := ku hg4 2 k2_2
 have k4_6 := ku hg4 6 k2_6
 have k4_7 := ku hg4 7 k2_7
 have k4_8 := ku hg4 8 k2_8
 have k4_10 := ku hg4 10 k2_10
 have k4_9 := kt hg4 9 (upd_same _ _ _)
 refine wpOps_end ?_
 refine hK2 _ _ ?_
 refine wp_seq_k fun K3 hK3 => ?_
 refine wp_seq_k fun K4 hK4 => ?_
 refine region_dk 2 [(21, 0), (22, 1)] [[], [0]] (rel [is (.int .i64 0),
   is (.bool false)])
  ⟨is_k, is_k, trivial⟩
  ⟨fun f s W c l m n p a => opv rfl rfl (by simp [go_sem, a.e 9 k4_9]) rfl,
  fun f s W c l m n p a => opv rfl rfl (by simp [go_sem, a.e 21 (l 0 rfl)]) rfl, trivial⟩ ?_
 intro f5 s5 W5 hB5 g5 hg5
 have fB5 := hB5.f fB3
 have z5 := hB5.below.size
 have b5_0 := hB5.b b3_0
 have b5_1 := hB5.b nb3
 refine hK4 _ _ ?_
 have k5_1 := kt hg5 1 k4_1
 have k5_2 := kt hg5 2 k4_2
 have k5_6 := kt hg5 6 k4_6
 have k5_7 := kt hg5 7 k4_7
 have k5_8 := kt hg5 8 k4_8
 have k5_10 := kt hg5 10 k4_10
 have k5_9 := kt hg5 9 k4_9
 have k5_22 := kt hg5 22 (hB5.is 1)
 refine wp_cond_false ((fr_eval rfl).trans k5_22) ?_
 refine wp_skip ?_
 refine hK3 _ _ ?_
 refine wp_seq_k fun K6 hK6 => ?_
 refine region_dk 1 [(11, 0)] [[]] (rel [bx 0 #[.int .i64 0, .int .i64 0] 159])
  ⟨bx_k, trivial⟩
  ⟨fun f s W c l m n p a => opb rfl rfl (by simp [go_sem]), trivial⟩ ?_
 intro f6 s6 W6 hB6 g6 hg6
 have fB6 := hB6.f fB5
 have z6 := hB6.below.size
 have b6_0 := hB6.b b5_0
 have b6_1 := hB6.b b5_1
 obtain ⟨r6_0, br6_0⟩ := hB6.is 0
 have lr6_0 := hB6.lr 0 br6_0
 refine hK6 _ _ ?_
 have k6_1 := kt hg6 1 k5_1
 have k6_2 := kt hg6 2 k5_2
 have k6_6 := kt hg6 6 k5_6
 have k6_7 := kt hg6 7 k5_7
 have k6_8 := kt hg6 8 k5_8
 have k6_10 := kt hg6 10 k5_10
 have k6_9 := kt hg6 9 k5_9
 have k6_11 := kt hg6 11 r6_0
 refine wp_seq_k fun K7 hK7 => ?_
 refine wp_seq_k fun K8 hK8 => ?_
 refine fl_region_seq ?_
 show wpOps _ _ _ (List.range' 0 6) _ _
 refine tail_value (o := _) rfl rfl rfl (v := .agg #[.int .i64 ((nm : Int)), .slice (some ⟨bc, oc, none⟩) (2) (cc), .slice (sa) (ns) (sc), .slice (some ⟨bj, oj, none⟩) (3) (cj)]) (by simp [go_sem, frv 50 k6_10, cl b6_1 0, cl b6_1 1, cl b6_1 2, cl b6_1 3]) ?_
 generalize hg7 : upd g6 24 (.agg #[.int .i64 ((nm : Int)), .slice (some ⟨bc, oc, none⟩) (2) (cc), .slice (sa) (ns) (sc), .slice (some ⟨bj, oj, none⟩) (3) (cj)]) = g7
 have k7_1 := ku hg7 1 k6_1
 have k7_2 := ku hg7 2 k6_2
 have k7_6 := ku hg7 6 k6_6
 have k7_7 := ku hg7 7 k6_7
 have k7_8 := ku hg7 8 k6_8
 have k7_10 := ku hg7 10 k6_10
 have k7_9 := ku hg7 9 k6_9
 have k7_11 := ku hg7 11 k6_11
 have k7_24 := kt hg7 24 (upd_same _ _ _)
 refine tail_value (o := _) rfl rfl rfl (v := .slice (ao) (no) (co)) (by simp [go_sem, frv 50 k7_2]) ?_
 generalize hg8 : upd g7 25 (.slice (ao) (no) (co)) = g8
 have k8_1 := ku hg8 1 k7_1
 have k8_2 := ku hg8 2 k7_2
 have k8_6 := ku hg8 6 k7_6
 have k8_7 := ku hg8 7 k7_7
 have k8_8 := ku hg8 8 k7_8
 have k8_10 := ku hg8 10 k7_10
 have k8_9 := ku hg8 9 k7_9
 have k8_11 := ku hg8 11 k7_11
 have k8_24 := ku hg8 24 k7_24
 have k8_25 := kt hg8 25 (upd_same _ _ _)
 refine tail_call (o := _) (d := 26) rfl rfl rfl (by simp [go_sem, frv 50 k8_24, frv 50 k8_25]) (run_3 nm ns CH x js bc oc cc bs os_ sc bj oj cj sa adc kpc adj kpj od ao no co xs W6 (hF) (hM.below fB6) (hX.below fB6 (Nat.le_refl _)) hno hod) ?_ (fun _ h => by obtain ⟨_, _, _, h, _⟩ := h; cases h) (fun _ _ h => by obtain ⟨_, _, _, h, _⟩ := h; cases h)
 have lx9_0 := lt_of_blk b6_0
 have lx9_1 := lt_of_blk b6_1
 have lx9_2 := lt_of_blk br6_0
 rintro v_ W9 ⟨bS9, bE9, V9, rv9, h1_9, h2_9, lS9, lE9, hb9⟩
 obtain rfl := Ending.returned.inj rv9
 have fB9 := below_trans fB6 hb9
 have b9_0 := blk_below b6_0 hb9
 have b9_1 := blk_below b6_1 hb9
 have b9_2 := blk_below br6_0 hb9
 have i1_9 := h1_9.all hsur
 generalize hg9 : upd g8 26 (.agg #[.slice (some ⟨bS9, 0, none⟩) (3) (3), .slice (some ⟨bE9, 0, none⟩) (3) (3)]) = g9
 have k9_1 := ku hg9 1 k8_1
 have k9_2 := ku hg9 2 k8_2
 have k9_6 := ku hg9 6 k8_6
 have k9_7 := ku hg9 7 k8_7
 have k9_8 := ku hg9 8 k8_8
 have k9_10 := ku hg9 10 k8_10
 have k9_9 := ku hg9 9 k8_9
 have k9_11 := ku hg9 11 k8_11
 have k9_26 := kt hg9 26 (upd_same _ _ _)
 have fx10 : ∀ W : World, (Instr.field 98 (.agg #[.slice (some ⟨bS9, 0, none⟩) (3) (3), .slice (some ⟨bE9, 0, none⟩) (3) (3)]) 1).run Try.prog W = .ok (.slice (some ⟨bE9, 0, none⟩) (3) (3)) W := fun W => (by kernel_rfl)
 refine tail_value (o := _) rfl rfl rfl (v := .slice (some ⟨bE9, 0, none⟩) (3) (3)) (by simp [go_sem, frv 50 k9_26, fx10]) ?_
 generalize hg10 : upd g9 27 (.slice (some ⟨bE9, 0, none⟩) (3) (3)) = g10
 have k10_1 := ku hg10 1 k9_1
 have k10_2 := ku hg10 2 k9_2
 have k10_6 := ku hg10 6 k9_6
 have k10_7 := ku hg10 7 k9_7
 have k10_8 := ku hg10 8 k9_8
 have k10_10 := ku hg10 10 k9_10
 have k10_9 := ku hg10 9 k9_9
 have k10_11 := ku hg10 11 k9_11
 have k10_27 := kt hg10 27 (upd_same _ _ _)
 refine tail_value (o := _) rfl rfl rfl (v := .int .i64 3) (by simp [go_sem, frv 50 k10_27]) ?_
 generalize hg11 : upd g10 28 (.int .i64 3) = g11
 have k11_1 := ku hg11 1 k10_1
 have k11_2 := ku hg11 2 k10_2
 have k11_6 := ku hg11 6 k10_6
 have k11_7 := ku hg11 7 k10_7
 have k11_8 := ku hg11 8 k10_8
 have k11_10 := ku hg11 10 k10_10
 have k11_9 := ku hg11 9 k10_9
 have k11_11 := ku hg11 11 k10_11
 have k11_27 := ku hg11 27 k10_27
 have k11_28 := kt hg11 28 (upd_same _ _ _)
 refine tail_value (o := _) rfl rfl rfl (v := .int .i64 0) (by simp [go_sem]) ?_
 generalize hg12 : upd g11 29 (.int .i64 0) = g12
 have k12_1 := ku hg12 1 k11_1
 have k12_2 := ku hg12 2 k11_2
 have k12_6 := ku hg12 6 k11_6
 have k12_7 := ku hg12 7 k11_7
 have k12_8 := ku hg12 8 k11_8
 have k12_10 := ku hg12 10 k11_10
 have k12_9 := ku hg12 9 k11_9
 have k12_11 := ku hg12 11 k11_11
 have k12_27 := ku hg12 27 k11_27
 have k12_28 := ku hg12 28 k11_28
 have k12_29 := kt hg12 29 (upd_same _ _ _)
 refine wpOps_end ?_
 refine hK8 _ _ ?_
 refine wp_block ?_
 refine wp_loop_rounds 4 ?_
 rw [rounds_succ]
 refine wp_seq_k fun K9 hK9 => ?_
 refine region_dk 1 [(30, 0)] [[]] (rel [is (.bool true)])
  ⟨is_k, trivial⟩
  ⟨fun f s W c l m n p a => opv rfl rfl (by simp [go_sem, a.e 29 k12_29, a.e 28 k12_28]) rfl, trivial⟩ ?_
 intro f13 s13 W13 hB13 g13 hg13
 have fB13 := hB13.f fB9
 have z13 := hB13.below.size
 have b13_0 := hB13.b b9_0
 have b13_1 := hB13.b b9_1
 have b13_2 := hB13.b b9_2
 have q20' := (IsSt.below i1_9 hB13.below)
 have q21' := (TabV.below h2_9 hB13.below)
 refine hK9 _ _ ?_
 have k13_1 := kt hg13 1 k12_1
 have k13_2 := kt hg13 2 k12_2
 have k13_6 := kt hg13 6 k12_6
 have k13_7 := kt hg13 7 k12_7
 have k13_8 := kt hg13 8 k12_8
 have k13_10 := kt hg13 10 k12_10
 have k13_9 := kt hg13 9 k12_9
 have k13_11 := kt hg13 11 k12_11
 have k13_27 := kt hg13 27 k12_27
 have k13_28 := kt hg13 28 k12_28
 have k13_29 := kt hg13 29 k12_29
 have k13_30 := kt hg13 30 (hB13.is 0)
 refine wp_seq_k fun K10 hK10 => ?_
 refine wp_cond_true ((fr_eval rfl).trans k13_30) ?_
 refine wp_skip ?_
 refine hK10 _ _ ?_
 refine wp_seq_k fun K12 hK12 => ?_
 refine wp_block ?_
 refine wp_seq_k fun K13 hK13 => ?_
 refine region_dk 5 [(31, 0), (32, 1), (33, 2), (12, 3), (13, 4)] [[], [], [1], [0, 1, 2], [0, 1, 2, 3]] (rel [is (.int .i64 0),
   is (.pointer (some ⟨bE9, 0, none⟩)),
   is (.int .i64 110),
   is (.int .i64 0),
   is (.int .i64 110)])
  ⟨is_k, is_k, is_k, is_k, is_k, trivial⟩
  ⟨fun f s W c l m n p a => opv rfl rfl (by simp [go_sem, a.e 29 k13_29]) rfl,
  fun f s W c l m n p a => opv rfl rfl (by simp [go_sem, a.e 27 k13_27, a.e 29 k13_29]) rfl,
  fun f s W c l m n p a => by have cu_ := ((TabV.below q21' c)).cell (i := 0) (by decide); rw [hen0] at cu_; exact opv rfl rfl (by simp [go_sem, a.e 32 (l 1 rfl), cu_]) rfl,
  fun f s W c l m n p a => opv rfl rfl (by simp [go_sem, a.e 31 (l 0 rfl)]) rfl,
  fun f s W c l m n p a => opv rfl rfl (by simp [go_sem, a.e 33 (l 2 rfl)]) rfl, trivial⟩ ?_
 intro f14 s14 W14 hB14 g14 hg14
 have fB14 := hB14.f fB13
 have z14 := hB14.below.size
 have b14_0 := hB14.b b13_0
 have b14_1 := hB14.b b13_1
 have b14_2 := hB14.b b13_2
 have q22' := (IsSt.below q20' hB14.below)
 have q23' := (TabV.below q21' hB14.below)
 refine hK13 _ _ ?_
 have k14_1 := kt hg14 1 k13_1
 have k14_2 := kt hg14 2 k13_2
 have k14_6 := kt hg14 6 k13_6
 have k14_7 := kt hg14 7 k13_7
 have k14_8 := kt hg14 8 k13_8
 have k14_10 := kt hg14 10 k13_10
 have k14_9 := kt hg14 9 k13_9
 have k14_11 := kt hg14 11 k13_11
 have k14_27 := kt hg14 27 k13_27
 have k14_28 := kt hg14 28 k13_28
 have k14_29 := kt hg14 29 k13_29
 have k14_30 := kt hg14 30 k13_30
 have k14_12 := kt hg14 12 (hB14.is 3)
 have k14_13 := kt hg14 13 (hB14.is 4)
 refine region_dk 7 [(34, 0), (35, 1), (36, 2), (37, 3), (38, 4), (39, 5), (40, 6)] [[], [], [], [1, 2], [1, 2, 3], [], [0, 1, 2, 3, 4, 5], [0, 1, 2, 3, 4, 5, 6]] (rel [is (.agg #[.int .i64 0, .int .i64 0]),
   is (.slice (some ⟨bj, oj, none⟩) (3) (cj)),
   is (.int .i64 0),
   is (.pointer (some ⟨bj, oj + 0 * 4, none⟩)),
   is (.agg #[.int .i64 (((js 0).kd : Int)), .int .i64 ((js 0).rd), .int .i64 ((js 0).du), .slice ((adj 0)) ((js 0).ms.length) ((kpj 0))]),
   is (.int .i64 110),
   is (.agg #[.int .i64 10, .int .i64 110])])
  ⟨is_k, is_k, is_k, is_k, is_k, is_k, is_k, trivial⟩
  ⟨fun f s W c l m n p a => opv rfl rfl (by simp [go_sem, a.e 11 k14_11, cb b14_2 c 0, cb b14_2 c 1]) rfl,
  fun f s W c l m n p a => opv rfl rfl (by simp [go_sem, a.e 1 k14_1]) rfl,
  fun f s W c l m n p a => opv rfl rfl (by simp [go_sem, a.e 12 k14_12]) rfl,
  fun f s W c l m n p a => by have li_ := Nat.not_le.2 (show 0 < 3 by decide); exact opv rfl rfl (by simp [go_sem, a.e 35 (l 1 rfl), a.e 36 (l 2 rfl), li_]) rfl,
  fun f s W c l m n p a => by have q := below_trans fB14 c; obtain ⟨cu0_, cu1_, cu2_, cu3_, -⟩ := (hM.j.below q).2 0 (by omega); simp only [Nat.zero_mul, Nat.add_zero] at cu0_ cu1_ cu2_ cu3_; exact opv rfl rfl (by simp [go_sem, a.e 37 (l 3 rfl), cu0_, cu1_, cu2_, cu3_]) rfl,
  fun f s W c l m n p a => opv rfl rfl (by simp [go_sem, a.e 13 k14_13]) rfl,
  fun f s W c l m n p a => opDo_call rfl rfl (by simp [go_sem, a.e 34 (l 0 rfl), a.e 38 (l 4 rfl), a.e 39 (l 5 rfl)]) (plus_any (0) (0) 110 (js 0) ((adj 0)) ((js 0).ms.length) ((kpj 0)) W (by omega) (by decide) (by have := hF.jd 0; omega)) ((fun e W' h => by have h1 := h.1; rw [hd0] at h1; exact ⟨_, h1.trans (by congr 3 <;> simp), h.2, rfl⟩)), trivial⟩ ?_
 intro f15 s15 W15 hB15 g15 hg15
 have fB15 := hB15.f fB14
 have z15 := hB15.below.size
 have b15_0 := hB15.b b14_0
 have b15_1 := hB15.b b14_1
 have b15_2 := hB15.b b14_2
 have q24' := (IsSt.below q22' hB15.below)
 have q25' := (TabV.below q23' hB15.below)
 have k15_1 := kt hg15 1 k14_1
 have k15_2 := kt hg15 2 k14_2
 have k15_6 := kt hg15 6 k14_6
 have k15_7 := kt hg15 7 k14_7
 have k15_8 := kt hg15 8 k14_8
 have k15_10 := kt hg15 10 k14_10
 have k15_9 := kt hg15 9 k14_9
 have k15_11 := kt hg15 11 k14_11
 have k15_27 := kt hg15 27 k14_27
 have k15_28 := kt hg15 28 k14_28
 have k15_29 := kt hg15 29 k14_29
 have k15_30 := kt hg15 30 k14_30
 have k15_12 := kt hg15 12 k14_12
 have k15_13 := kt hg15 13 k14_13
 have k15_40 := kt hg15 40 (hB15.is 6)
 obtain ⟨W16, hW16⟩ : ∃ W', W' = W15.setRow (s6 0) #[.int .i64 10, .int .i64 110] := ⟨_, rfl⟩
 refine tail_skip (o := _) rfl ⟨rfl, rfl⟩ (run_seg hW16 (fr_ev k15_11) (fr_ev k15_40) b15_2 rfl rfl rfl rfl) ?_
 obtain ⟨fB16, nb16, ot16, z16⟩ := seg_facts hW16 fB15 b15_2 (by omega)
 clear hW16
 have b16_0 := ot16 _ _ (by omega) b15_0
 have b16_1 := ot16 _ _ (by omega) b15_1
 have q26' := (TabV.other q25' ot16 (by omega))
 refine wpOps_end ?_
 refine inBlock_normal ?_
 refine hK12 _ _ ?_
 refine region_dk 2 [(41, 0), (29, 1)] [[], [0]] (rel [is (.int .i64 1),
   is (.int .i64 1)])
  ⟨is_k, is_k, trivial⟩
  ⟨fun f s W c l m n p a => opv rfl rfl (by simp [go_sem, a.e 29 ((n 1 29 rfl rfl).trans k15_29), IntWalk.i64_in (1) (by omega)]) rfl,
  fun f s W c l m n p a => opv rfl rfl (by simp [go_sem, a.e 41 (l 0 rfl)]) rfl, trivial⟩ ?_
 intro f17 s17 W17 hB17 g17 hg17
 have fB17 := hB17.f fB16
 have z17 := hB17.below.size
 have b17_0 := hB17.b b16_0
 have b17_1 := hB17.b b16_1
 have b17_2 := hB17.b nb16
 have q27' := (TabV.below q26' hB17.below)
 refine wpOps_end ?_
 have k17_1 := kt hg17 1 k15_1
 have k17_2 := kt hg17 2 k15_2
 have k17_6 := kt hg17 6 k15_6
 have k17_7 := kt hg17 7 k15_7
 have k17_8 := kt hg17 8 k15_8
 have k17_10 := kt hg17 10 k15_10
 have k17_9 := kt hg17 9 k15_9
 have k17_11 := kt hg17 11 k15_11
 have k17_27 := kt hg17 27 k15_27
 have k17_28 := kt hg17 28 k15_28
 have k17_30 := kt hg17 30 k15_30
 have k17_12 := kt hg17 12 k15_12
 have k17_13 := kt hg17 13 k15_13
 have k17_40 := kt hg17 40 k15_40
 have k17_29 := kt hg17 29 (hB17.is 1)
 refine then_normal ?_
 rw [rounds_succ]
 refine wp_seq_k fun K14 hK14 => ?_
 refine region_dk 1 [(30, 0)] [[]] (rel [is (.bool true)])
  ⟨is_k, trivial⟩
  ⟨fun f s W c l m n p a => opv rfl rfl (by simp [go_sem, a.e 29 k17_29, a.e 28 k17_28]) rfl, trivial⟩ ?_
 intro f18 s18 W18 hB18 g18 hg18
 have fB18 := hB18.f fB17
 have z18 := hB18.below.size
 have b18_0 := hB18.b b17_0
 have b18_1 := hB18.b b17_1
 have b18_2 := hB18.b b17_2
 have q28' := (TabV.below q27' hB18.below)
 refine hK14 _ _ ?_
 have k18_1 := kt hg18 1 k17_1
 have k18_2 := kt hg18 2 k17_2
 have k18_6 := kt hg18 6 k17_6
 have k18_7 := kt hg18 7 k17_7
 have k18_8 := kt hg18 8 k17_8
 have k18_10 := kt hg18 10 k17_10
 have k18_9 := kt hg18 9 k17_9
 have k18_11 := kt hg18 11 k17_11
 have k18_27 := kt hg18 27 k17_27
 have k18_28 := kt hg18 28 k17_28
 have k18_12 := kt hg18 12 k17_12
 have k18_13 := kt hg18 13 k17_13
 have k18_40 := kt hg18 40 k17_40
 have k18_29 := kt hg18 29 k17_29
 have k18_30 := kt hg18 30 (hB18.is 0)
 refine wp_seq_k fun K15 hK15 => ?_
 refine wp_cond_true ((fr_eval rfl).trans k18_30) ?_
 refine wp_skip ?_
 refine hK15 _ _ ?_
 refine wp_seq_k fun K17 hK17 => ?_
 refine wp_block ?_
 refine wp_seq_k fun K18 hK18 => ?_
 refine region_dk 5 [(31, 0), (32, 1), (33, 2), (12, 3), (13, 4)] [[], [], [1], [0, 1, 2], [0, 1, 2, 3]] (rel [is (.int .i64 1),
   is (.pointer (some ⟨bE9, 1, none⟩)),
   is (.int .i64 40),
   is (.int .i64 1),
   is (.int .i64 40)])
  ⟨is_k, is_k, is_k, is_k, is_k, trivial⟩
  ⟨fun f s W c l m n p a => opv rfl rfl (by simp [go_sem, a.e 29 k18_29]) rfl,
  fun f s W c l m n p a => opv rfl rfl (by simp [go_sem, a.e 27 k18_27, a.e 29 k18_29]) rfl,
  fun f s W c l m n p a => by have cu_ := ((TabV.below q28' c)).cell (i := 1) (by decide); rw [hen1] at cu_; exact opv rfl rfl (by simp [go_sem, a.e 32 (l 1 rfl), cu_]) rfl,
  fun f s W c l m n p a => opv rfl rfl (by simp [go_sem, a.e 31 (l 0 rfl)]) rfl,
  fun f s W c l m n p a => opv rfl rfl (by simp [go_sem, a.e 33 (l 2 rfl)]) rfl, trivial⟩ ?_
 intro f19 s19 W19 hB19 g19 hg19
 have fB19 := hB19.f fB18
 have z19 := hB19.below.size
 have b19_0 := hB19.b b18_0
 have b19_1 := hB19.b b18_1
 have b19_2 := hB19.b b18_2
 have q29' := (TabV.below q28' hB19.below)
 refine hK18 _ _ ?_
 have k19_1 := kt hg19 1 k18_1
 have k19_2 := kt hg19 2 k18_2
 have k19_6 := kt hg19 6 k18_6
 have k19_7 := kt hg19 7 k18_7
 have k19_8 := kt hg19 8 k18_8
 have k19_10 := kt hg19 10 k18_10
 have k19_9 := kt hg19 9 k18_9
 have k19_11 := kt hg19 11 k18_11
 have k19_27 := kt hg19 27 k18_27
 have k19_28 := kt hg19 28 k18_28
 have k19_40 := kt hg19 40 k18_40
 have k19_29 := kt hg19 29 k18_29
 have k19_30 := kt hg19 30 k18_30
 have k19_12 := kt hg19 12 (hB19.is 3)
 have k19_13 := kt hg19 13 (hB19.is 4)
 refine region_dk 7 [(34, 0), (35, 1), (36, 2), (37, 3), (38, 4), (39, 5), (40, 6)] [[], [], [], [1, 2], [1, 2, 3], [], [0, 1, 2, 3, 4, 5], [0, 1, 2, 3, 4, 5, 6]] (rel [is (.agg #[.int .i64 10, .int .i64 110]),
   is (.slice (some ⟨bj, oj, none⟩) (3) (cj)),
   is (.int .i64 1),
   is (.pointer (some ⟨bj, oj + 1 * 4, none⟩)),
   is (.agg #[.int .i64 (((js 1).kd : Int)), .int .i64 ((js 1).rd), .int .i64 ((js 1).du), .slice ((adj 1)) ((js 1).ms.length) ((kpj 1))]),
   is (.int .i64 40),
   is (.agg #[.int .i64 10, .int .i64 110])])
  ⟨is_k, is_k, is_k, is_k, is_k, is_k, is_k, trivial⟩
  ⟨fun f s W c l m n p a => opv rfl rfl (by simp [go_sem, a.e 11 k19_11, cb b19_2 c 0, cb b19_2 c 1]) rfl,
  fun f s W c l m n p a => opv rfl rfl (by simp [go_sem, a.e 1 k19_1]) rfl,
  fun f s W c l m n p a => opv rfl rfl (by simp [go_sem, a.e 12 k19_12]) rfl,
  fun f s W c l m n p a => by have li_ := Nat.not_le.2 (show 1 < 3 by decide); exact opv rfl rfl (by simp [go_sem, a.e 35 (l 1 rfl), a.e 36 (l 2 rfl), li_]) rfl,
  fun f s W c l m n p a => by have q := below_trans fB19 c; obtain ⟨cu0_, cu1_, cu2_, cu3_, -⟩ := (hM.j.below q).2 1 (by omega); exact opv rfl rfl (by simp [go_sem, a.e 37 (l 3 rfl), cu0_, cu1_, cu2_, cu3_]) rfl,
  fun f s W c l m n p a => opv rfl rfl (by simp [go_sem, a.e 13 k19_13]) rfl,
  fun f s W c l m n p a => opDo_call rfl rfl (by simp [go_sem, a.e 34 (l 0 rfl), a.e 38 (l 4 rfl), a.e 39 (l 5 rfl)]) (plus_any (10) (110) 40 (js 1) ((adj 1)) ((js 1).ms.length) ((kpj 1)) W (by omega) (by decide) (by have := hF.jd 1; omega)) ((fun e W' h => by have h1 := h.1; rw [hd1] at h1; exact ⟨_, h1.trans (by congr 3 <;> simp), h.2, rfl⟩)), trivial⟩ ?_
 intro f20 s20 W20 hB20 g20 hg20
 have fB20 := hB20.f fB19
 have z20 := hB20.below.size
 have b20_0 := hB20.b b19_0
 have b20_1 := hB20.b b19_1
 have b20_2 := hB20.b b19_2
 have q30' := (TabV.below q29' hB20.below)
 have k20_1 := kt hg20 1 k19_1
 have k20_2 := kt hg20 2 k19_2
 have k20_6 := kt hg20 6 k19_6
 have k20_7 := kt hg20 7 k19_7
 have k20_8 := kt hg20 8 k19_8
 have k20_10 := kt hg20 10 k19_10
 have k20_9 := kt hg20 9 k19_9
 have k20_11 := kt hg20 11 k19_11
 have k20_27 := kt hg20 27 k19_27
 have k20_28 := kt hg20 28 k19_28
 have k20_29 := kt hg20 29 k19_29
 have k20_30 := kt hg20 30 k19_30
 have k20_12 := kt hg20 12 k19_12
 have k20_13 := kt hg20 13 k19_13
 have k20_40 := kt hg20 40 (hB20.is 6)
 obtain ⟨W21, hW21⟩ : ∃ W', W' = W20.setRow (s6 0) #[.int .i64 10, .int .i64 110] := ⟨_, rfl⟩
 refine tail_skip (o := _) rfl ⟨rfl, rfl⟩ (run_seg hW21 (fr_ev k20_11) (fr_ev k20_40) b20_2 rfl rfl rfl rfl) ?_
 obtain ⟨fB21, nb21, ot21, z21⟩ := seg_facts hW21 fB20 b20_2 (by omega)
 clear hW21
 have b21_0 := ot21 _ _ (by omega) b20_0
 have b21_1 := ot21 _ _ (by omega) b20_1
 have q31' := (TabV.other q30' ot21 (by omega))
 refine wpOps_end ?_
 refine inBlock_normal ?_
 refine hK17 _ _ ?_
 refine region_dk 2 [(41, 0), (29, 1)] [[], [0]] (rel [is (.int .i64 2),
   is (.int .i64 2)])
  ⟨is_k, is_k, trivial⟩
  ⟨fun f s W c l m n p a => opv rfl rfl (by simp [go_sem, a.e 29 ((n 1 29 rfl rfl).trans k20_29), IntWalk.i64_in (2) (by omega)]) rfl,
  fun f s W c l m n p a => opv rfl rfl (by simp [go_sem, a.e 41 (l 0 rfl)]) rfl, trivial⟩ ?_
 intro f22 s22 W22 hB22 g22 hg22
 have fB22 := hB22.f fB21
 have z22 := hB22.below.size
 have b22_0 := hB22.b b21_0
 have b22_1 := hB22.b b21_1
 have b22_2 := hB22.b nb21
 have q32' := (TabV.below q31' hB22.below)
 refine wpOps_end ?_
 have k22_1 := kt hg22 1 k20_1
 have k22_2 := kt hg22 2 k20_2
 have k22_6 := kt hg22 6 k20_6
 have k22_7 := kt hg22 7 k20_7
 have k22_8 := kt hg22 8 k20_8
 have k22_10 := kt hg22 10 k20_10
 have k22_9 := kt hg22 9 k20_9
 have k22_11 := kt hg22 11 k20_11
 have k22_27 := kt hg22 27 k20_27
 have k22_28 := kt hg22 28 k20_28
 have k22_30 := kt hg22 30 k20_30
 have k22_12 := kt hg22 12 k20_12
 have k22_13 := kt hg22 13 k20_13
 have k22_40 := kt hg22 40 k20_40
 have k22_29 := kt hg22 29 (hB22.is 1)
 refine then_normal ?_
 rw [rounds_succ]
 refine wp_seq_k fun K19 hK19 => ?_
 refine region_dk 1 [(30, 0)] [[]] (rel [is (.bool true)])
  ⟨is_k, trivial⟩
  ⟨fun f s W c l m n p a => opv rfl rfl (by simp [go_sem, a.e 29 k22_29, a.e 28 k22_28]) rfl, trivial⟩ ?_
 intro f23 s23 W23 hB23 g23 hg23
 have fB23 := hB23.f fB22
 have z23 := hB23.below.size
 have b23_0 := hB23.b b22_0
 have b23_1 := hB23.b b22_1
 have b23_2 := hB23.b b22_2
 have q33' := (TabV.below q32' hB23.below)
 refine hK19 _ _ ?_
 have k23_1 := kt hg23 1 k22_1
 have k23_2 := kt hg23 2 k22_2
 have k23_6 := kt hg23 6 k22_6
 have k23_7 := kt hg23 7 k22_7
 have k23_8 := kt hg23 8 k22_8
 have k23_10 := kt hg23 10 k22_10
 have k23_9 := kt hg23 9 k22_9
 have k23_11 := kt hg23 11 k22_11
 have k23_27 := kt hg23 27 k22_27
 have k23_28 := kt hg23 28 k22_28
 have k23_12 := kt hg23 12 k22_12
 have k23_13 := kt hg23 13 k22_13
 have k23_40 := kt hg23 40 k22_40
 have k23_29 := kt hg23 29 k22_29
 have k23_30 := kt hg23 30 (hB23.is 0)
 refine wp_seq_k fun K20 hK20 => ?_
 refine wp_cond_true ((fr_eval rfl).trans k23_30) ?_
 refine wp_skip ?_
 refine hK20 _ _ ?_
 refine wp_seq_k fun K22 hK22 => ?_
 refine wp_block ?_
 refine wp_seq_k fun K23 hK23 => ?_
 refine region_dk 5 [(31, 0), (32, 1), (33, 2), (12, 3), (13, 4)] [[], [], [1], [0, 1, 2], [0, 1, 2, 3]] (rel [is (.int .i64 2),
   is (.pointer (some ⟨bE9, 2, none⟩)),
   is (.int .i64 80),
   is (.int .i64 2),
   is (.int .i64 80)])
  ⟨is_k, is_k, is_k, is_k, is_k, trivial⟩
  ⟨fun f s W c l m n p a => opv rfl rfl (by simp [go_sem, a.e 29 k23_29]) rfl,
  fun f s W c l m n p a => opv rfl rfl (by simp [go_sem, a.e 27 k23_27, a.e 29 k23_29]) rfl,
  fun f s W c l m n p a => by have cu_ := ((TabV.below q33' c)).cell (i := 2) (by decide); rw [hen2] at cu_; exact opv rfl rfl (by simp [go_sem, a.e 32 (l 1 rfl), cu_]) rfl,
  fun f s W c l m n p a => opv rfl rfl (by simp [go_sem, a.e 31 (l 0 rfl)]) rfl,
  fun f s W c l m n p a => opv rfl rfl (by simp [go_sem, a.e 33 (l 2 rfl)]) rfl, trivial⟩ ?_
 intro f24 s24 W24 hB24 g24 hg24
 have fB24 := hB24.f fB23
 have z24 := hB24.below.size
 have b24_0 := hB24.b b23_0
 have b24_1 := hB24.b b23_1
 have b24_2 := hB24.b b23_2
 have q34' := (TabV.below q33' hB24.below)
 refine hK23 _ _ ?_
 have k24_1 := kt hg24 1 k23_1
 have k24_2 := kt hg24 2 k23_2
 have k24_6 := kt hg24 6 k23_6
 have k24_7 := kt hg24 7 k23_7
 have k24_8 := kt hg24 8 k23_8
 have k24_10 := kt hg24 10 k23_10
 have k24_9 := kt hg24 9 k23_9
 have k24_11 := kt hg24 11 k23_11
 have k24_27 := kt hg24 27 k23_27
 have k24_28 := kt hg24 28 k23_28
 have k24_40 := kt hg24 40 k23_40
 have k24_29 := kt hg24 29 k23_29
 have k24_30 := kt hg24 30 k23_30
 have k24_12 := kt hg24 12 (hB24.is 3)
 have k24_13 := kt hg24 13 (hB24.is 4)
 refine region_dk 7 [(34, 0), (35, 1), (36, 2), (37, 3), (38, 4), (39, 5), (40, 6)] [[], [], [], [1, 2], [1, 2, 3], [], [0, 1, 2, 3, 4, 5], [0, 1, 2, 3, 4, 5, 6]] (rel [is (.agg #[.int .i64 10, .int .i64 110]),
   is (.slice (some ⟨bj, oj, none⟩) (3) (cj)),
   is (.int .i64 2),
   is (.pointer (some ⟨bj, oj + 2 * 4, none⟩)),
   is (.agg #[.int .i64 (((js 2).kd : Int)), .int .i64 ((js 2).rd), .int .i64 ((js 2).du), .slice ((adj 2)) ((js 2).ms.length) ((kpj 2))]),
   is (.int .i64 80),
   is (.agg #[.int .i64 10, .int .i64 110])])
  ⟨is_k, is_k, is_k, is_k, is_k, is_k, is_k, trivial⟩
  ⟨fun f s W c l m n p a => opv rfl rfl (by simp [go_sem, a.e 11 k24_11, cb b24_2 c 0, cb b24_2 c 1]) rfl,
  fun f s W c l m n p a => opv rfl rfl (by simp [go_sem, a.e 1 k24_1]) rfl,
  fun f s W c l m n p a => opv rfl rfl (by simp [go_sem, a.e 12 k24_12]) rfl,
  fun f s W c l m n p a => by have li_ := Nat.not_le.2 (show 2 < 3 by decide); exact opv rfl rfl (by simp [go_sem, a.e 35 (l 1 rfl), a.e 36 (l 2 rfl), li_]) rfl,
  fun f s W c l m n p a => by have q := below_trans fB24 c; obtain ⟨cu0_, cu1_, cu2_, cu3_, -⟩ := (hM.j.below q).2 2 (by omega); exact opv rfl rfl (by simp [go_sem, a.e 37 (l 3 rfl), cu0_, cu1_, cu2_, cu3_]) rfl,
  fun f s W c l m n p a => opv rfl rfl (by simp [go_sem, a.e 13 k24_13]) rfl,
  fun f s W c l m n p a => opDo_call rfl rfl (by simp [go_sem, a.e 34 (l 0 rfl), a.e 38 (l 4 rfl), a.e 39 (l 5 rfl)]) (plus_any (10) (110) 80 (js 2) ((adj 2)) ((js 2).ms.length) ((kpj 2)) W (by omega) (by decide) (by have := hF.jd 2; omega)) ((fun e W' h => by have h1 := h.1; rw [hd2] at h1; exact ⟨_, h1.trans (by congr 3 <;> simp), h.2, rfl⟩)), trivial⟩ ?_
 intro f25 s25 W25 hB25 g25 hg25
 have fB25 := hB25.f fB24
 have z25 := hB25.below.size
 have b25_0 := hB25.b b24_0
 have b25_1 := hB25.b b24_1
 have b25_2 := hB25.b b24_2
 have q35' := (TabV.below q34' hB25.below)
 have k25_1 := kt hg25 1 k24_1
 have k25_2 := kt hg25 2 k24_2
 have k25_6 := kt hg25 6 k24_6
 have k25_7 := kt hg25 7 k24_7
 have k25_8 := kt hg25 8 k24_8
 have k25_10 := kt hg25 10 k24_10
 have k25_9 := kt hg25 9 k24_9
 have k25_11 := kt hg25 11 k24_11
 have k25_27 := kt hg25 27 k24_27
 have k25_28 := kt hg25 28 k24_28
 have k25_29 := kt hg25 29 k24_29
 have k25_30 := kt hg25 30 k24_30
 have k25_12 := kt hg25 12 k24_12
 have k25_13 := kt hg25 13 k24_13
 have k25_40 := kt hg25 40 (hB25.is 6)
 obtain ⟨W26, hW26⟩ : ∃ W', W' = W25.setRow (s6 0) #[.int .i64 10, .int .i64 110] := ⟨_, rfl⟩
 refine tail_skip (o := _) rfl ⟨rfl, rfl⟩ (run_seg hW26 (fr_ev k25_11) (fr_ev k25_40) b25_2 rfl rfl rfl rfl) ?_
 obtain ⟨fB26, nb26, ot26, z26⟩ := seg_facts hW26 fB25 b25_2 (by omega)
 clear hW26
 have b26_0 := ot26 _ _ (by omega) b25_0
 have b26_1 := ot26 _ _ (by omega) b25_1
 have q36' := (TabV.other q35' ot26 (by omega))
 refine wpOps_end ?_
 refine inBlock_normal ?_
 refine hK22 _ _ ?_
 refine region_dk 2 [(41, 0), (29, 1)] [[], [0]] (rel [is (.int .i64 3),
   is (.int .i64 3)])
  ⟨is_k, is_k, trivial⟩
  ⟨fun f s W c l m n p a => opv rfl rfl (by simp [go_sem, a.e 29 ((n 1 29 rfl rfl).trans k25_29), IntWalk.i64_in (3) (by omega)]) rfl,
  fun f s W c l m n p a => opv rfl rfl (by simp [go_sem, a.e 41 (l 0 rfl)]) rfl, trivial⟩ ?_
 intro f27 s27 W27 hB27 g27 hg27
 have fB27 := hB27.f fB26
 have z27 := hB27.below.size
 have b27_0 := hB27.b b26_0
 have b27_1 := hB27.b b26_1
 have b27_2 := hB27.b nb26
 have q37' := (TabV.below q36' hB27.below)
 refine wpOps_end ?_
 have k27_1 := kt hg27 1 k25_1
 have k27_2 := kt hg27 2 k25_2
 have k27_6 := kt hg27 6 k25_6
 have k27_7 := kt hg27 7 k25_7
 have k27_8 := kt hg27 8 k25_8
 have k27_10 := kt hg27 10 k25_10
 have k27_9 := kt hg27 9 k25_9
 have k27_11 := kt hg27 11 k25_11
 have k27_27 := kt hg27 27 k25_27
 have k27_28 := kt hg27 28 k25_28
 have k27_30 := kt hg27 30 k25_30
 have k27_12 := kt hg27 12 k25_12
 have k27_13 := kt hg27 13 k25_13
 have k27_40 := kt hg27 40 k25_40
 have k27_29 := kt hg27 29 (hB27.is 1)
 refine then_normal ?_
 rw [rounds_succ]
 refine wp_seq_k fun K24 hK24 => ?_
 refine region_dk 1 [(30, 0)] [[]] (rel [is (.bool false)])
  ⟨is_k, trivial⟩
  ⟨fun f s W c l m n p a => opv rfl rfl (by simp [go_sem, a.e 29 k27_29, a.e 28 k27_28]) rfl, trivial⟩ ?_
 intro f28 s28 W28 hB28 g28 hg28
 have fB28 := hB28.f fB27
 have z28 := hB28.below.size
 have b28_0 := hB28.b b27_0
 have b28_1 := hB28.b b27_1
 have b28_2 := hB28.b b27_2
 have q38' := (TabV.below q37' hB28.below)
 refine hK24 _ _ ?_
 have k28_1 := kt hg28 1 k27_1
 have k28_2 := kt hg28 2 k27_2
 have k28_6 := kt hg28 6 k27_6
 have k28_7 := kt hg28 7 k27_7
 have k28_8 := kt hg28 8 k27_8
 have k28_10 := kt hg28 10 k27_10
 have k28_9 := kt hg28 9 k27_9
 have k28_11 := kt hg28 11 k27_11
 have k28_27 := kt hg28 27 k27_27
 have k28_28 := kt hg28 28 k27_28
 have k28_12 := kt hg28 12 k27_12
 have k28_13 := kt hg28 13 k27_13
 have k28_40 := kt hg28 40 k27_40
 have k28_29 := kt hg28 29 k27_29
 have k28_30 := kt hg28 30 (hB28.is 0)
 refine wp_seq_k fun K25 hK25 => ?_
 refine wp_cond_false ((fr_eval rfl).trans k28_30) ?_
 refine wp_exit ?_
 refine then_exit ?_
 refine then_exit ?_
 refine inBlock_at ?_
 refine hK7 _ _ ?_
 refine wp_seq_k fun K27 hK27 => ?_
 refine region_dk 12 [(42, 0), (43, 1), (44, 2), (45, 3), (46, 4), (47, 5), (48, 6), (49, 7), (6, 8), (7, 9), (8, 10), (9, 11)] [[], [], [0, 1], [0, 1, 2], [], [4], [], [6], [0, 1, 2, 3], [0, 1, 2, 3, 4, 5, 8], [0, 1, 2, 3, 4, 5, 6, 7, 8, 9], [0, 1, 2, 3, 4, 5, 6, 7, 8, 9, 10]] (rel [is (.agg #[.int .i64 ((nm : Int)), .slice (some ⟨bc, oc, none⟩) (2) (cc), .slice (sa) (ns) (sc), .slice (some ⟨bj, oj, none⟩) (3) (cj)]),
   is (.slice (ao) (no) (co)),
   ab fun v W => IsOne v W,
   is (.int .i64 1),
   is (.pointer (some ⟨(s6 0), 0, none⟩)),
   is (.int .i64 10),
   is (.pointer (some ⟨(s6 0), 1, none⟩)),
   is (.int .i64 110),
   is (.int .i64 1),
   is (.int .i64 10),
   is (.int .i64 110),
   is (.int .i64 0)])
  ⟨is_k, is_k, ab_k fun v W W' hb h => h, is_k, is_k, is_k, is_k, is_k, is_k, is_k, is_k, is_k, trivial⟩
  ⟨fun f s W c l m n p a => opl rfl rfl rfl (a.v 10 k28_10) (blk_below b28_1 c) Try.underlying94 rfl (by kernel_rfl) rfl,
  fun f s W c l m n p a => opv rfl rfl (by simp [go_sem, a.e 2 k28_2]) rfl,
  fun f s W c l m n p a => by have q := below_trans fB28 c; exact opDo_call (args := #[.agg #[.int .i64 ((nm : Int)), .slice (some ⟨bc, oc, none⟩) (2) (cc), .slice (sa) (ns) (sc), .slice (some ⟨bj, oj, none⟩) (3) (cj)], .slice (ao) (no) (co)]) rfl rfl (by simp [go_sem, a.e 42 (l 0 rfl), a.e 43 (l 1 rfl)]) (late_3 nm ns CH x js bc oc cc bs os_ sc bj oj cj sa adc kpc adj kpj od ao no co xs W hF (hM.below q) (hX.below q (Nat.le_refl _)) hno hod hsort hsur hen0 hen1 hen2 hd0 hd1 hd2) ((fun e W' h => by obtain ⟨v, e1, h1, h2⟩ := h; exact ⟨_, e1, h2, h1⟩)),
  fun f s W c l m n p a => by obtain ⟨a39', c40', d2⟩ := (l 2 rfl); exact opv rfl rfl (by simp [go_sem, a.e 44 d2]) rfl,
  fun f s W c l m n p a => opv rfl rfl (by simp [go_sem, a.e 11 k28_11]) rfl,
  fun f s W c l m n p a => opv rfl rfl (by simp [go_sem, a.e 46 (l 4 rfl), cb b28_2 c 0]) rfl,
  fun f s W c l m n p a => opv rfl rfl (by simp [go_sem, a.e 11 k28_11]) rfl,
  fun f s W c l m n p a => opv rfl rfl (by simp [go_sem, a.e 48 (l 6 rfl), cb b28_2 c 1]) rfl,
  fun f s W c l m n p a => opv rfl rfl (by simp [go_sem, a.e 45 (l 3 rfl)]) rfl,
  fun f s W c l m n p a => opv rfl rfl (by simp [go_sem, a.e 47 (l 5 rfl)]) rfl,
  fun f s W c l m n p a => opv rfl rfl (by simp [go_sem, a.e 49 (l 7 rfl)]) rfl,
  fun f s W c l m n p a => opv rfl rfl (by simp [go_sem]) rfl, trivial⟩ ?_
 intro f29 s29 W29 hB29 g29 hg29
 have fB29 := hB29.f fB28
 have z29 := hB29.below.size
 have b29_0 := hB29.b b28_0
 have b29_1 := hB29.b b28_1
 have b29_2 := hB29.b b28_2
 have q41' := (TabV.below q38' hB29.below)
 refine hK27 _ _ ?_
 have k29_6 := kt hg29 6 (hB29.is 8)
 have k29_7 := kt hg29 7 (hB29.is 9)
 have k29_8 := kt hg29 8 (hB29.is 10)
 have k29_9 := kt hg29 9 (hB29.is 11)
 refine wp_ret ?_
 refine leave_gen (v := .tuple #[.int .i64 1, .int .i64 10, .int .i64 110, .int .i64 0]) (.inr rfl) (by simp [results, Try.results28, go_sem, frv 50 k29_6, frv 50 k29_7, frv 50 k29_8, frv 50 k29_9]) ?_
 exact ⟨rfl, fB29⟩
end Go.Proofs.Ytcgccflcjejlhaa
