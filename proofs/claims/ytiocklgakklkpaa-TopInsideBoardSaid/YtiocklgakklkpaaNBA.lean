/- Part of the proof: what the claim leans on. -/
import Derived.Test.YtiocklgakklkpaaNAZ
import Derived.Test.YtiocklgakklkpaaNAY
import Derived.Test.YtiocklgakklkpaaNAX
import Derived.ProofKit
import Derived.OpenShut
import Derived.ChangeOld
import Derived.Below
import Derived.Test.YtiocklgakklkpaaNAD
import Derived.Test.YtiocklgakklkpaaNAT
set_option linter.unusedSimpArgs false
set_option linter.unusedVariables false
namespace Go.Proofs.Ytiocklgakklkpaa
open Go.RowKit
set_option maxRecDepth 100000 in
set_option maxHeartbeats 40000000 in
theorem inside_main (fv : Nat → Int) (ps : Nat → Pa) (qs : Nat → Fu) (ta : Option Addr) (tn tc : Nat) (bs : Nat → Int) (tb lg wd hh fp fq sl : Int) (b : Bl) (ka kb m1 m2 tq : Int) (L9 : List Sp) (w : World) (hst : ∀ W, Calls Try.prog 6 #[.agg #[.int .u8 ((fv 0)), .int .u8 ((fv 1)), .int .u8 ((fv 2)), .int .u8 ((fv 3)), .int .u8 ((fv 4)), .int .u8 ((fv 5)), .int .u8 ((fv 6)), .int .u8 ((fv 7)), .int .u8 ((fv 8)), .int .u8 ((fv 9)), .int .u8 ((fv 10)), .int .u8 ((fv 11)), .int .u8 ((fv 12)), .int .u8 ((fv 13)), .int .u8 ((fv 14)), .int .u8 ((fv 15)), .int .u8 ((fv 16)), .int .u8 ((fv 17)), .int .u8 ((fv 18)), .int .u8 ((fv 19)), .int .u8 ((fv 20)), .int .u8 ((fv 21)), .int .u8 ((fv 22)), .int .u8 ((fv 23)), .int .u8 ((fv 24))]] W (StoOP ps qs W)) (hbox : ∀ W, Calls Try.prog 7 #[.agg #[.int .u8 ((fv 0)), .int .u8 ((fv 1)), .int .u8 ((fv 2)), .int .u8 ((fv 3)), .int .u8 ((fv 4)), .int .u8 ((fv 5)), .int .u8 ((fv 6)), .int .u8 ((fv 7)), .int .u8 ((fv 8)), .int .u8 ((fv 9)), .int .u8 ((fv 10)), .int .u8 ((fv 11)), .int .u8 ((fv 12)), .int .u8 ((fv 13)), .int .u8 ((fv 14)), .int .u8 ((fv 15)), .int .u8 ((fv 16)), .int .u8 ((fv 17)), .int .u8 ((fv 18)), .int .u8 ((fv 19)), .int .u8 ((fv 20)), .int .u8 ((fv 21)), .int .u8 ((fv 22)), .int .u8 ((fv 23)), .int .u8 ((fv 24))], .int .i64 0] W (BoxOP tb lg wd hh fp fq sl W)) (hI : FoldIn ps qs) (hb : (⟨tb, [lg, wd, lg, wd], hh, [fp, fp], [fp, fq], sl, false⟩ : Bl) = b) (hck : checkErr b = 0) (hT : ByV w ta tn bs) (hm1 : w1S (o1 (ps 0)) (o1 (ps 1)) (o1 (ps 2)) (qs 0) = m1) (hm2 : w1S (o2 (ps 0)) (o2 (ps 1)) (o2 (ps 2)) (qs 0) = m2) (hka : lo1 ps qs = ka) (hkb : hi1 ps qs = kb) (htq : cal1 ps qs tn bs = tq) (j1 : 1 ≤ ka) (j2 : ka ≤ kb) (j3 : kb ≤ 10000) (htq1 : ka ≤ tq) (htq2 : tq ≤ kb) (hL9 : innerL b (ka, kb) 0 = L9) (hn9 : L9.length = 9) (hmic : ∀ j c, j < 9 → ka ≤ c → c ≤ kb → (nthP L9 j).1 ≤ mic b c j ∧ mic b c j ≤ (nthP L9 j).2) (hmh : ∀ j, j < 9 → mic b kb j = (nthP L9 j).1) (hml : ∀ j, j < 9 → mic b ka j = (nthP L9 j).2) (glg : 0 ≤ lg ∧ lg ≤ 3000) (gwd : 0 ≤ wd ∧ wd ≤ 3000) (ghh : 0 ≤ hh ∧ hh ≤ 3000) (gfp : 0 ≤ fp ∧ fp ≤ 3000) (gfq : 0 ≤ fq ∧ fq ≤ 3000) :
  Calls Try.prog 4 #[.agg #[.int .u8 ((fv 0)), .int .u8 ((fv 1)), .int .u8 ((fv 2)), .int .u8 ((fv 3)), .int .u8 ((fv 4)), .int .u8 ((fv 5)), .int .u8 ((fv 6)), .int .u8 ((fv 7)), .int .u8 ((fv 8)), .int .u8 ((fv 9)), .int .u8 ((fv 10)), .int .u8 ((fv 11)), .int .u8 ((fv 12)), .int .u8 ((fv 13)), .int .u8 ((fv 14)), .int .u8 ((fv 15)), .int .u8 ((fv 16)), .int .u8 ((fv 17)), .int .u8 ((fv 18)), .int .u8 ((fv 19)), .int .u8 ((fv 20)), .int .u8 ((fv 21)), .int .u8 ((fv 22)), .int .u8 ((fv 23)), .int .u8 ((fv 24))], .slice (ta) (tn) (tc)] w (fun e w' => e = .returned (.bool true) ∧ Below w.heap.size w w') := by
 have hL9z : ((L9.length : Int) != 9) = false := by rw [hn9]; rfl
 refine calls_fr Try.func4 Try.ntmps4 rfl rfl fun g hg => ?_
 have k0 : g 0 = .agg #[.int .u8 ((fv 0)), .int .u8 ((fv 1)), .int .u8 ((fv 2)), .int .u8 ((fv 3)), .int .u8 ((fv 4)), .int .u8 ((fv 5)), .int .u8 ((fv 6)), .int .u8 ((fv 7)), .int .u8 ((fv 8)), .int .u8 ((fv 9)), .int .u8 ((fv 10)), .int .u8 ((fv 11)), .int .u8 ((fv 12)), .int .u8 ((fv 13)), .int .u8 ((fv 14)), .int .u8 ((fv 15)), .int .u8 ((fv 16)), .int .u8 ((fv 17)), .int .u8 ((fv 18)), .int .u8 ((fv 19)), .int .u8 ((fv 20)), .int .u8 ((fv 21)), .int .u8 ((fv 22)), .int .u8 ((fv 23)), .int .u8 ((fv 24))] := hg 0
 have k1 : g 1 = .slice (ta) (tn) (tc) := hg 1
 clear hg
 have fB0 : Below w.heap.size w w := Below.refl _ _
 refine wp_seq_k fun K1 hK1 => ?_
 as_aux_lemma =>
 refine region_dk 2 [(2, 0), (4, 1)] [[], []] (rel [bx 0 #[.int .u8 ((fv 0)), .int .u8 ((fv 1)), .int .u8 ((fv 2)), .int .u8 ((fv 3)), .int .u8 ((fv 4)), .int .u8 ((fv 5)), .int .u8 ((fv 6)), .int .u8 ((fv 7)), .int .u8 ((fv 8)), .int .u8 ((fv 9)), .int .u8 ((fv 10)), .int .u8 ((fv 11)), .int .u8 ((fv 12)), .int .u8 ((fv 13)), .int .u8 ((fv 14)), .int .u8 ((fv 15)), .int .u8 ((fv 16)), .int .u8 ((fv 17)), .int .u8 ((fv 18)), .int .u8 ((fv 19)), .int .u8 ((fv 20)), .int .u8 ((fv 21)), .int .u8 ((fv 22)), .int .u8 ((fv 23)), .int .u8 ((fv 24))] 28,
   is (.bool false)])
  ⟨bx_k, is_k, trivial⟩
  ⟨fun f s W hW i k l m a => opb rfl rfl (by simp [go_sem, a.e 0 k0]),
  fun f s W hW i k l m a => opv rfl rfl (by simp [go_sem]) rfl, trivial⟩ ?_
 intro f1 s1 W1 hB1 g1 hg1
 have fB1 := hB1.f fB0
 have z1 := hB1.below.size
 obtain ⟨r1_0, br1_0⟩ := hB1.is 0
 have lr1_0 := hB1.lr 0 br1_0
 refine hK1 _ _ ?_
 have k1_1 := kt hg1 1 k1
 have k1_2 := kt hg1 2 r1_0
 have k1_4 := kt hg1 4 (hB1.is 1)
 refine wp_seq_k fun K2 hK2 => ?_
 as_aux_lemma =>
 refine region_dk 8 [(18, 0), (19, 1), (20, 2), (21, 3), (22, 4), (5, 5), (6, 6), (7, 7)] [[], [0], [0, 1], [], [0, 1, 2, 3], [], [], [], [0, 1, 2, 3, 4, 5, 6, 7], [0, 1, 2, 3, 4, 5, 6, 7, 8], [0, 1, 2, 3, 4, 5, 6, 7, 8, 9]] (rel [is (.agg #[.int .u8 ((fv 0)), .int .u8 ((fv 1)), .int .u8 ((fv 2)), .int .u8 ((fv 3)), .int .u8 ((fv 4)), .int .u8 ((fv 5)), .int .u8 ((fv 6)), .int .u8 ((fv 7)), .int .u8 ((fv 8)), .int .u8 ((fv 9)), .int .u8 ((fv 10)), .int .u8 ((fv 11)), .int .u8 ((fv 12)), .int .u8 ((fv 13)), .int .u8 ((fv 14)), .int .u8 ((fv 15)), .int .u8 ((fv 16)), .int .u8 ((fv 17)), .int .u8 ((fv 18)), .int .u8 ((fv 19)), .int .u8 ((fv 20)), .int .u8 ((fv 21)), .int .u8 ((fv 22)), .int .u8 ((fv 23)), .int .u8 ((fv 24))]),
   ab fun v W => StoO 0 ps qs v W,
   ab fun v W => BoO 0 3 1 [0, 1, 2] [0] v W,
   is (.agg #[.int .u8 ((fv 0)), .int .u8 ((fv 1)), .int .u8 ((fv 2)), .int .u8 ((fv 3)), .int .u8 ((fv 4)), .int .u8 ((fv 5)), .int .u8 ((fv 6)), .int .u8 ((fv 7)), .int .u8 ((fv 8)), .int .u8 ((fv 9)), .int .u8 ((fv 10)), .int .u8 ((fv 11)), .int .u8 ((fv 12)), .int .u8 ((fv 13)), .int .u8 ((fv 14)), .int .u8 ((fv 15)), .int .u8 ((fv 16)), .int .u8 ((fv 17)), .int .u8 ((fv 18)), .int .u8 ((fv 19)), .int .u8 ((fv 20)), .int .u8 ((fv 21)), .int .u8 ((fv 22)), .int .u8 ((fv 23)), .int .u8 ((fv 24))]),
   ab fun v W => BoxO 0 tb lg wd hh fp fq sl v W,
   bx 5 #[.slice (none) (0) (0), .slice (none) (0) (0)] 33,
   bx 6 #[.slice (none) (0) (0), .slice (none) (0) (0)] 46,
   bx 7 #[.int .i64 0, .slice (none) (0) (0), .int .i64 0, .slice (none) (0) (0), .slice (none) (0) (0), .int .i64 0, .bool false] 37])
  ⟨is_k, ab_k fun v W W' hb h => h.below hb, ab_k fun v W W' hb h => h.below hb, is_k, ab_k fun v W W' hb h => h.below hb, bx_k, bx_k, bx_k, trivial⟩
  ⟨fun f s W hW i k l m a => opl rfl rfl rfl (a.v 2 k1_2) (blk_below br1_0 hW) Try.underlying28 rfl (by kernel_rfl) rfl,
  fun f s W hW i k l m a => opDo_call rfl rfl (by simp [go_sem, a.e 18 (i 0 rfl)]) (hst W) ((fun e W' h => by obtain ⟨v, e1, h1, h2⟩ := h; exact ⟨_, e1, h2, h1.low (Nat.zero_le _)⟩)),
  fun f s W hW i k l m a => opDo_call rfl rfl (by simp [go_sem]) (pubSingle_any W) ((fun e W' h => by obtain ⟨v, e1, h1, h2⟩ := h; exact ⟨_, e1, h2, h1.low (Nat.zero_le _)⟩)),
  fun f s W hW i k l m a => opl rfl rfl rfl (a.v 2 k1_2) (blk_below br1_0 hW) Try.underlying28 rfl (by kernel_rfl) rfl,
  fun f s W hW i k l m a => opDo_call rfl rfl (by simp [go_sem, a.e 21 (i 3 rfl)]) (hbox W) ((fun e W' h => by obtain ⟨v, e1, h1, h2⟩ := h; exact ⟨_, e1, h2, h1.low (Nat.zero_le _)⟩)),
  fun f s W hW i k l m a => opb rfl rfl (by simp [go_sem]),
  fun f s W hW i k l m a => opb rfl rfl (by simp [go_sem]),
  fun f s W hW i k l m a => opb rfl rfl (by simp [go_sem]), trivial⟩ ?_
 intro f2 s2 W2 hB2 g2 hg2
 have fB2 := hB2.f fB1
 have z2 := hB2.below.size
 have b2_0 := hB2.b br1_0
 obtain ⟨g1', c3', g2', c4', r2_1, q5', q6'⟩ := hB2.is 1
 obtain ⟨g7', c9', g8', c10', r2_2, q11', q12'⟩ := hB2.is 2
 obtain ⟨g13', c16', g14', c17', g15', c18', r2_4, q19', q20', q21'⟩ := hB2.is 4
 obtain ⟨r2_5, br2_5⟩ := hB2.is 5
 have lr2_5 := hB2.lr 5 br2_5
 obtain ⟨r2_6, br2_6⟩ := hB2.is 6
 have lr2_6 := hB2.lr 6 br2_6
 obtain ⟨r2_7, br2_7⟩ := hB2.is 7
 have lr2_7 := hB2.lr 7 br2_7
 have ne2_5_6 := hB2.nb 5 6
 have ne2_5_7 := hB2.nb 5 7
 have ne2_6_7 := hB2.nb 6 7
 have k2_1 := kt hg2 1 k1_1
 have k2_4 := kt hg2 4 k1_4
 have k2_19 := kt hg2 19 r2_1
 have k2_20 := kt hg2 20 r2_2
 have k2_22 := kt hg2 22 r2_4
 have k2_5 := kt hg2 5 r2_5
 have k2_6 := kt hg2 6 r2_6
 have k2_7 := kt hg2 7 r2_7
 obtain ⟨W3, hW3⟩ : ∃ W', W' = W2.setRow (s2 5) #[.slice (some ⟨g1', 0, none⟩) (3) (c3'), .slice (some ⟨g2', 0, none⟩) (2) (c4')] := ⟨_, rfl⟩
 refine tail_skip (o := _) rfl ⟨rfl, rfl⟩ (run_seg hW3 (fr_ev k2_5) (fr_ev k2_19) br2_5 rfl rfl rfl rfl) ?_
 obtain ⟨fB3, nb3, ot3, z3⟩ := seg_facts hW3 fB2 br2_5 (by omega)
 clear hW3
 have b3_0 := ot3 _ _ (by first | assumption | exact Ne.symm (by assumption) | omega) b2_0
 have b3_2 := ot3 _ _ (by first | assumption | exact Ne.symm (by assumption) | omega) br2_6
 have b3_3 := ot3 _ _ (by first | assumption | exact Ne.symm (by assumption) | omega) br2_7
 have q22' := q5'.other ot3 (ownR_ne q5' br2_5) z3
 have q23' := q6'.other ot3 (ownR_ne q6' br2_5) z3
 have q24' := q11'.other ot3 (own_ne q11' br2_5) z3
 have q25' := q12'.other ot3 (own_ne q12' br2_5) z3
 have q26' := q19'.other ot3 (own_ne q19' br2_5) z3
 have q27' := q20'.other ot3 (own_ne q20' br2_5) z3
 have q28' := q21'.other ot3 (own_ne q21' br2_5) z3
 obtain ⟨W4, hW4⟩ : ∃ W', W' = W3.setRow (s2 6) #[.slice (some ⟨g7', 0, none⟩) (3) (c9'), .slice (some ⟨g8', 0, none⟩) (1) (c10')] := ⟨_, rfl⟩
 refine tail_skip (o := _) rfl ⟨rfl, rfl⟩ (run_seg hW4 (fr_ev k2_6) (fr_ev k2_20) b3_2 rfl rfl rfl rfl) ?_
 obtain ⟨fB4, nb4, ot4, z4⟩ := seg_facts hW4 fB3 b3_2 (by omega)
 clear hW4
 have b4_0 := ot4 _ _ (by first | assumption | exact Ne.symm (by assumption) | omega) b3_0
 have b4_1 := ot4 _ _ (by first | assumption | exact Ne.symm (by assumption) | omega) nb3
 have b4_3 := ot4 _ _ (by first | assumption | exact Ne.symm (by assumption) | omega) b3_3
 have q29' := q22'.other ot4 (ownR_ne q22' b3_2) z4
 have q30' := q23'.other ot4 (ownR_ne q23' b3_2) z4
 have q31' := q24'.other ot4 (own_ne q24' b3_2) z4
 have q32' := q25'.other ot4 (own_ne q25' b3_2) z4
 have q33' := q26'.other ot4 (own_ne q26' b3_2) z4
 have q34' := q27'.other ot4 (own_ne q27' b3_2) z4
 have q35' := q28'.other ot4 (own_ne q28' b3_2) z4
 obtain ⟨W5, hW5⟩ : ∃ W', W' = W4.setRow (s2 7) #[.int .i64 tb, .slice (some ⟨g13', 0, none⟩) (4) (c16'), .int .i64 hh, .slice (some ⟨g14', 0, none⟩) (2) (c17'), .slice (some ⟨g15', 0, none⟩) (2) (c18'), .int .i64 sl, .bool false] := ⟨_, rfl⟩
 refine tail_skip (o := _) rfl ⟨rfl, rfl⟩ (run_seg hW5 (fr_ev k2_7) (fr_ev k2_22) b4_3 rfl rfl rfl rfl) ?_
 obtain ⟨fB5, nb5, ot5, z5⟩ := seg_facts hW5 fB4 b4_3 (by omega)
 clear hW5
 have b5_0 := ot5 _ _ (by first | assumption | exact Ne.symm (by assumption) | omega) b4_0
 have b5_1 := ot5 _ _ (by first | assumption | exact Ne.symm (by assumption) | omega) b4_1
 have b5_2 := ot5 _ _ (by first | assumption | exact Ne.symm (by assumption) | omega) nb4
 have q36' := q29'.other ot5 (ownR_ne q29' b4_3) z5
 have q37' := q30'.other ot5 (ownR_ne q30' b4_3) z5
 have q38' := q31'.other ot5 (own_ne q31' b4_3) z5
 have q39' := q32'.other ot5 (own_ne q32' b4_3) z5
 have q40' := q33'.other ot5 (own_ne q33' b4_3) z5
 have q41' := q34'.other ot5 (own_ne q34' b4_3) z5
 have q42' := q35'.other ot5 (own_ne q35' b4_3) z5
 refine wpOps_end ?_
 refine hK2 _ _ ?_
 refine wp_seq_k fun K3 hK3 => ?_
 as_aux_lemma =>
 refine region_doS (W5.heap.size) (fun t => [40].contains t) [(11, 9), (12, 10)] 13 [(24, 0), (25, 1), (26, 2), (27, 3), (28, 4), (23, 5), (29, 6), (30, 7), (31, 8), (8, 9), (9, 10), (10, 13)] [[], [0], [], [0, 1, 2], [0, 1, 2, 3], [0, 1, 2, 3, 4], [0, 1, 2, 3, 4, 5], [0, 1, 2, 3, 4, 5], [0, 1, 2, 3, 4, 5], [], [], [0, 1, 2, 3, 4, 5, 6, 9, 10], [0, 1, 2, 3, 4, 5, 6, 7, 9, 10, 11], [0, 1, 2, 3, 4, 5, 6, 7, 8, 9, 10, 11, 12]] (rel [is (.agg #[.slice (some ⟨g1', 0, none⟩) (3) (c3'), .slice (some ⟨g2', 0, none⟩) (2) (c4')]),
   ab fun v W => StoO 0 ps qs v W,
   is (.agg #[.slice (some ⟨g7', 0, none⟩) (3) (c9'), .slice (some ⟨g8', 0, none⟩) (1) (c10')]),
   ab fun v W => BoO 0 3 1 [0, 1, 2] [0] v W,
   is (.tuple #[.agg #[.int .i64 m1, .int .i64 m2], .agg #[.int .i64 ka, .int .i64 kb], .int .i64 0]),
   is (.tuple #[.agg #[.int .i64 m1, .int .i64 m2], .agg #[.int .i64 ka, .int .i64 kb], .int .i64 0]),
   is (.agg #[.int .i64 m1, .int .i64 m2]),
   is (.agg #[.int .i64 ka, .int .i64 kb]),
   is (.int .i64 0),
   boxK (W5.heap.size) 40 2 9,
   boxK (W5.heap.size) 40 2 10,
   stoS 40 9 #[.int .i64 m1, .int .i64 m2],
   stoS 40 10 #[.int .i64 ka, .int .i64 kb]]) (by kernel_rfl) (by kernel_rfl) (by kernel_rfl) (by kernel_rfl) (by decide) ⟨fun _ _ _ h => boxK_lt h, fun _ _ _ h => boxK_lt h, trivial⟩
  ⟨ks_l (is_kl), ks_l (abK_k fun v W W' hb h => h.leK hb), ks_l (is_kl), ks_l (abK_k fun v W W' hb h => h.leK hb), ks_l (is_kl), ks_l (is_kl), ks_l (is_kl), ks_l (is_kl), ks_l (is_kl), ks_l (boxK_k rfl), ks_l (boxK_k rfl), ks_s rfl (by decide), ks_s rfl (by decide), trivial⟩
  ⟨fun f s W hT i k l m a => by have hW := LeK.below hT (Nat.le_refl _); exact OpDo.s (opv rfl rfl (by simp [go_sem, a.e 5 k2_5, cb b5_1 hW 0, cb b5_1 hW 1]) rfl),
  fun f s W hT i k l m a => by have hW := LeK.below hT (Nat.le_refl _); exact OpDo.s (opDo_call rfl rfl (by simp [go_sem, a.e 24 (i 0 rfl)]) (pubOwn_any ps qs (g1') 0 c3' (g2') 0 c4' W ((q36'.below hW)).PaR3 ((q37'.below hW)).FuR2) ((fun e W' h => by obtain ⟨v, e1, h1, h2⟩ := h; exact ⟨_, e1, h2, h1.low (Nat.zero_le _)⟩))),
  fun f s W hT i k l m a => by have hW := LeK.below hT (Nat.le_refl _); exact OpDo.s (opv rfl rfl (by simp [go_sem, a.e 6 k2_6, cb b5_2 hW 0, cb b5_2 hW 1]) rfl),
  fun f s W hT i k l m a => by have hW := LeK.below hT (Nat.le_refl _); exact OpDo.s (opDo_call rfl rfl (by simp [go_sem, a.e 26 (i 2 rfl)]) (pubMade_own (some ⟨g7', 0, none⟩) (some ⟨g8', 0, none⟩) c9' c10' 3 1 [0, 1, 2] [0] W ((q38'.below hW)).ii ((q39'.below hW)).ii (by decide) (by decide) (by decide) (by decide)) ((fun e W' h => by obtain ⟨v, e1, h1, h2⟩ := h; exact ⟨_, e1, h2, h1⟩))),
  fun f s W hT i k l m a => by have hW := LeK.below hT (Nat.le_refl _); exact OpDo.s (by obtain ⟨g43', c45', g44', c46', d1, q47', q48'⟩ := (i 1 rfl); obtain ⟨g49', c51', g50', c52', d3, q53', q54'⟩ := (i 3 rfl); exact opDo_call rfl rfl (by simp [go_sem, a.e 25 d1, a.e 27 d3]) (measure_s hI (g43') c45' (g44') c46' (g49') c51' (g50') c52' W q47'.PaR3 q48'.FuR2 q53'.ii q54'.ii) ((fun e W' h => by have h1 := h.1; rw [hm1, hm2, hka, hkb] at h1; exact ⟨_, h1, h.2, rfl⟩))),
  fun f s W hT i k l m a => by have hW := LeK.below hT (Nat.le_refl _); exact OpDo.s (opv rfl rfl (by simp [go_sem, a.e 28 (i 4 rfl)]) rfl),
  fun f s W hT i k l m a => by have hW := LeK.below hT (Nat.le_refl _); exact OpDo.s (opv rfl rfl (by simp [go_sem, a.e 23 (i 5 rfl)]) rfl),
  fun f s W hT i k l m a => by have hW := LeK.below hT (Nat.le_refl _); exact OpDo.s (opv rfl rfl (by simp [go_sem, a.e 23 (i 5 rfl)]) rfl),
  fun f s W hT i k l m a => by have hW := LeK.below hT (Nat.le_refl _); exact OpDo.s (opv rfl rfl (by simp [go_sem, a.e 23 (i 5 rfl)]) rfl),
  fun f s W hT i k l m a => opS (cs := #[.int .i64 0, .int .i64 0]) (hT.size) rfl rfl (by simp [go_sem]) rfl,
  fun f s W hT i k l m a => opS (cs := #[.int .i64 0, .int .i64 0]) (hT.size) rfl rfl (by simp [go_sem]) rfl,
  fun f s W hT i k l m a => stoS_do (#[.int .i64 m1, .int .i64 m2]) rfl rfl rfl (by decide) (i 9 rfl) (a.v 8 (i 9 rfl).1) (a.v 29 (i 6 rfl)) rfl rfl (by rfl) (by rfl),
  fun f s W hT i k l m a => stoS_do (#[.int .i64 ka, .int .i64 kb]) rfl rfl rfl (by decide) (i 10 rfl) (a.v 9 (i 10 rfl).1) (a.v 30 (i 7 rfl)) rfl rfl (by rfl) (by rfl), trivial⟩ ?_
 intro f6 s6 W6 hB6
 have hb6 := LeK.below hB6.le (Nat.le_refl _)
 have fB6 := below_trans fB5 hb6
 have z6 : W5.heap.size ≤ W6.heap.size := hb6.size
 have b6_0 := blk_below b5_0 hb6
 have b6_1 := blk_below b5_1 hb6
 have b6_2 := blk_below b5_2 hb6
 have b6_3 := blk_below nb5 hb6
 have q55' := (q36'.below hb6)
 have q56' := (q37'.below hb6)
 have q57' := (q38'.below hb6)
 have q58' := (q39'.below hb6)
 have q59' := (q40'.below hb6)
 have q60' := (q41'.below hb6)
 have q61' := (q42'.below hb6)
 obtain ⟨r6_9, lb6_9, -⟩ := hB6.is 9
 have bs6_9 : W6.heap[s6 9]? = some (.cells #[.int .i64 m1, .int .i64 m2] 40 (0, 0)) := hB6.is 11
 have lr6_9 : W5.heap.size ≤ s6 9 ∧ s6 9 < W6.heap.size := ⟨lb6_9, lt_of_blk bs6_9⟩
 obtain ⟨r6_10, lb6_10, -⟩ := hB6.is 10
 have bs6_10 : W6.heap[s6 10]? = some (.cells #[.int .i64 ka, .int .i64 kb] 40 (0, 0)) := hB6.is 12
 have lr6_10 : W5.heap.size ≤ s6 10 ∧ s6 10 < W6.heap.size := ⟨lb6_10, lt_of_blk bs6_10⟩
 have nk6_9_10 : s6 9 ≠ s6 10 := hB6.two 9 10 (by decide) (by decide) (by decide) (Nat.le_refl _) (Nat.le_refl _) (fun _ h => boxK_lt h) (fun _ h => boxK_lt h)
 generalize hg6 : ov [(24, 0), (25, 1), (26, 2), (27, 3), (28, 4), (23, 5), (29, 6), (30, 7), (31, 8), (8, 9), (9, 10), (10, 13)] f6 g2 = g6
 have k6_1 := kt hg6 1 k2_1
 have k6_4 := kt hg6 4 k2_4
 have k6_5 := kt hg6 5 k2_5
 have k6_6 := kt hg6 6 k2_6
 have k6_7 := kt hg6 7 k2_7
 have k6_9 := kt hg6 9 r6_10
 have k6_31 := kt hg6 31 (hB6.is 8)
 refine tail_value (o := _) rfl rfl rfl (v := .int .i64 0) (by simp [go_sem, frv 191 k6_31]) ?_
 generalize hg7 : upd g6 10 (.int .i64 0) = g7
 have k7_1 := ku hg7 1 k6_1
 have k7_4 := ku hg7 4 k6_4
 have k7_5 := ku hg7 5 k6_5
 have k7_6 := ku hg7 6 k6_6
 have k7_7 := ku hg7 7 k6_7
 have k7_9 := ku hg7 9 k6_9
 have k7_10 := kt hg7 10 (upd_same _ _ _)
 refine wpOps_end ?_
 refine hK3 _ _ ?_
 refine wp_seq_k fun K4 hK4 => ?_
 as_aux_lemma =>
 refine region_dk 9 [(33, 0), (34, 1), (35, 2), (36, 3), (32, 4), (37, 5), (38, 6), (11, 7), (12, 8)] [[], [0], [], [0, 1, 2], [0, 1, 2, 3], [0, 1, 2, 3, 4], [0, 1, 2, 3, 4], [0, 1, 2, 3, 4, 5], [0, 1, 2, 3, 4, 5, 6, 7]] (rel [is (.agg #[.int .i64 tb, .slice (some ⟨g13', 0, none⟩) (4) (c16'), .int .i64 hh, .slice (some ⟨g14', 0, none⟩) (2) (c17'), .slice (some ⟨g15', 0, none⟩) (2) (c18'), .int .i64 sl, .bool false]),
   ab fun v W => NwBlk 0 (b) v W,
   is (.agg #[.int .i64 ka, .int .i64 kb]),
   ab fun v W => ∃ x0, v = .tuple #[x0, .int .i64 0] ∧ IsPp L9 x0 W,
   ab fun v W => ∃ x0, v = .tuple #[x0, .int .i64 0] ∧ IsPp L9 x0 W,
   ab fun v W => IsPp L9 v W,
   is (.int .i64 0),
   ab fun v W => IsPp L9 v W,
   is (.int .i64 0)])
  ⟨is_k, ab_k fun v W W' hb h => h.below hb, is_k, ab_k fun v W W' hb ⟨x0, e, h0⟩ => ⟨x0, e, h0.below hb⟩, ab_k fun v W W' hb ⟨x0, e, h0⟩ => ⟨x0, e, h0.below hb⟩, ab_k fun v W W' hb h => h.below hb, is_k, ab_k fun v W W' hb h => h.below hb, is_k, trivial⟩
  ⟨fun f s W hW i k l m a => opl rfl rfl rfl (a.v 7 k7_7) (blk_below b6_3 hW) Try.underlying37 rfl (by kernel_rfl) rfl,
  fun f s W hW i k l m a => opDo_call (args := #[.agg #[.int .i64 tb, .slice (some ⟨g13', 0, none⟩) (4) (c16'), .int .i64 hh, .slice (some ⟨g14', 0, none⟩) (2) (c17'), .slice (some ⟨g15', 0, none⟩) (2) (c18'), .int .i64 sl, .bool false]]) rfl rfl (by simp [go_sem, a.e 33 (i 0 rfl)]) (pubBlank_any _ _ _ _ _ _ (⟨tb, [lg, wd, lg, wd], hh, [fp, fp], [fp, fq], sl, false⟩ : Bl) W ((q59'.below hW)).ii ((q60'.below hW)).ii ((q61'.below hW)).ii (show 4 ≤ 1000 by decide) (show 2 ≤ 1000 by decide) (show 2 ≤ 1000 by decide)) ((fun e W' h => by obtain ⟨v, e1, h1, h2⟩ := h; rw [hb] at h1; exact ⟨_, e1, h2, h1.low (Nat.zero_le _)⟩)),
  fun f s W hW i k l m a => opv rfl rfl (by simp [go_sem, a.e 9 k7_9, cb bs6_10 hW 0, cb bs6_10 hW 1]) rfl,
  fun f s W hW i k l m a => by obtain ⟨g62', c65', g63', c66', g64', c67', d1, ⟨q68', q70', q69'⟩, ⟨q71', q73', q72'⟩, ⟨q74', q76', q75'⟩⟩ := (i 1 rfl); exact opDo_call (args := #[.agg #[.int .i64 b.tab, .slice (some ⟨g62', 0, none⟩) (b.panels.length) (c65'), .int .i64 b.height, .slice (some ⟨g63', 0, none⟩) (b.top.length) (c66'), .slice (some ⟨g64', 0, none⟩) (b.bottom.length) (c67'), .int .i64 b.slot, .bool b.isOpen], .agg #[.int .i64 ka, .int .i64 kb], .int .i64 0]) rfl rfl (by simp [go_sem, a.e 34 d1, a.e 35 (i 2 rfl)]) (inner_ok ka kb 0 W ⟨_, _, _, _, _, _, _, _, _, rfl, q68', q71', q74'⟩ hck j1 j2 j3 (by omega) (by omega)) ((fun e W' h => by obtain ⟨x, e1, h1, h2⟩ := h; rw [hL9] at h1; exact ⟨_, e1, h2, _, rfl, h1⟩)),
  fun f s W hW i k l m a => opv (v := (f 3)) rfl rfl (by simp [go_sem, (a.at' 36 rfl : m.tmps[36]?.getD undef = f 3)] <;> rfl) (i 3 rfl),
  fun f s W hW i k l m a => by obtain ⟨x4_0, d4, p4_0⟩ := (i 4 rfl); exact opv (v := x4_0) rfl rfl (by simp [go_sem, a.e 32 d4]) p4_0,
  fun f s W hW i k l m a => by obtain ⟨x4_0, d4, p4_0⟩ := (i 4 rfl); exact opv rfl rfl (by simp [go_sem, a.e 32 d4]) rfl,
  fun f s W hW i k l m a => opv (v := (f 5)) rfl rfl (by simp [go_sem, (a.at' 37 rfl : m.tmps[37]?.getD undef = f 5)] <;> rfl) (i 5 rfl),
  fun f s W hW i k l m a => opv rfl rfl (by simp [go_sem, a.e 38 (i 6 rfl)]) rfl, trivial⟩ ?_
 intro f8 s8 W8 hB8 g8 hg8
 have fB8 := hB8.f fB6
 have z8 := hB8.below.size
 have b8_0 := hB8.b b6_0
 have b8_1 := hB8.b b6_1
 have b8_2 := hB8.b b6_2
 have b8_3 := hB8.b b6_3
 have b8_4 := hB8.b bs6_9
 have b8_5 := hB8.b bs6_10
 have q80' := (q55'.below hB8.below)
 have q81' := (q56'.below hB8.below)
 have q82' := (q57'.below hB8.below)
 have q83' := (q58'.below hB8.below)
 have q84' := (q59'.below hB8.below)
 have q85' := (q60'.below hB8.below)
 have q86' := (q61'.below hB8.below)
 obtain ⟨a87', c88', r8_7, q89'⟩ := hB8.is 7
 have lim90' := Pp.lim q89'
 refine hK4 _ _ ?_
 have k8_1 := kt hg8 1 k7_1
 have k8_4 := kt hg8 4 k7_4
 have k8_5 := kt hg8 5 k7_5
 have k8_6 := kt hg8 6 k7_6
 have k8_7 := kt hg8 7 k7_7
 have k8_10 := kt hg8 10 k7_10
 have k8_11 := kt hg8 11 r8_7
 have k8_12 := kt hg8 12 (hB8.is 8)
 refine wp_seq_k fun K5 hK5 => ?_
 refine wp_seq_k fun K6 hK6 => ?_
 as_aux_lemma =>
 refine region_dk 11 [(39, 0), (40, 1), (41, 2), (42, 3), (43, 4), (44, 5), (45, 6), (46, 7), (47, 8), (48, 9), (49, 10)] [[], [0], [0, 1], [0, 1, 2], [0, 1, 2, 3], [0, 1, 2, 3, 4], [0, 1, 2, 3, 4, 5], [0, 1, 2, 3, 4, 5, 6], [0, 1, 2, 3, 4, 5, 6, 7], [0, 1, 2, 3, 4, 5, 6, 7, 8], [0, 1, 2, 3, 4, 5, 6, 7, 8, 9]] (rel [is (.int .i64 0),
   is (.bool false),
   is (.bool false),
   is (.int .i64 0),
   is (.bool false),
   is (.bool false),
   is (.bool false),
   is (.slice (a87') (L9.length) (c88')),
   is (.int .i64 ((L9.length : Int))),
   is (.bool false),
   is (.bool false)])
  ⟨is_k, is_k, is_k, is_k, is_k, is_k, is_k, is_k, is_k, is_k, is_k, trivial⟩
  ⟨fun f s W hW i k l m a => opv rfl rfl (by simp [go_sem, a.e 10 k8_10]) rfl,
  fun f s W hW i k l m a => opv rfl rfl (by simp [go_sem, a.e 39 (i 0 rfl)]) rfl,
  fun f s W hW i k l m a => opv rfl rfl (by simp [go_sem, a.e 40 (i 1 rfl)]) rfl,
  fun f s W hW i k l m a => osure rfl rfl (a.says (d := 41) rfl rfl (i 2 rfl)) (gv (by simp [go_sem, a.e 12 k8_12]) rfl),
  fun f s W hW i k l m a => osure rfl rfl (a.says (d := 41) rfl rfl (i 2 rfl)) (gv (by simp [go_sem, a.e 42 (i 3 rfl)]) rfl),
  fun f s W hW i k l m a => opk (c := false) rfl rfl (fun _ => by simp [go_sem, a.e 41 (i 2 rfl), a.e 43 (i 4 rfl)]) (fun h => absurd h (by decide)),
  fun f s W hW i k l m a => opv rfl rfl (by simp [go_sem, a.e 44 (i 5 rfl)]) rfl,
  fun f s W hW i k l m a => osure rfl rfl (a.says (d := 45) rfl rfl (i 6 rfl)) (gv (by simp [go_sem, a.e 11 k8_11]) rfl),
  fun f s W hW i k l m a => osure rfl rfl (a.says (d := 45) rfl rfl (i 6 rfl)) (gv (by simp [go_sem, a.e 46 (i 7 rfl)]) rfl),
  fun f s W hW i k l m a => osure rfl rfl (a.says (d := 45) rfl rfl (i 6 rfl)) (gv (by simp [go_sem, a.e 47 (i 8 rfl), hL9z]) rfl),
  fun f s W hW i k l m a => opk (c := false) rfl rfl (fun _ => by simp [go_sem, a.e 45 (i 6 rfl), a.e 48 (i 9 rfl)]) (fun h => absurd h (by decide)), trivial⟩ ?_
 intro f9 s9 W9 hB9 g9 hg9
 have fB9 := hB9.f fB8
 have z9 := hB9.below.size
 have b9_0 := hB9.b b8_0
 have b9_1 := hB9.b b8_1
 have b9_2 := hB9.b b8_2
 have b9_3 := hB9.b b8_3
 have b9_4 := hB9.b b8_4
 have b9_5 := hB9.b b8_5
 have q91' := (q80'.below hB9.below)
 have q92' := (q81'.below hB9.below)
 have q93' := (q82'.below hB9.below)
 have q94' := (q83'.below hB9.below)
 have q95' := (q84'.below hB9.below)
 have q96' := (q85'.below hB9.below)
 have q97' := (q86'.below hB9.below)
 have q98' := (q89'.bw hB9)
 refine hK6 _ _ ?_
 have k9_1 := kt hg9 1 k8_1
 have k9_4 := kt hg9 4 k8_4
 have k9_5 := kt hg9 5 k8_5
 have k9_6 := kt hg9 6 k8_6
 have k9_7 := kt hg9 7 k8_7
 have k9_11 := kt hg9 11 k8_11
 have k9_49 := kt hg9 49 (hB9.is 10)
 refine wp_cond_false ((fr_eval rfl).trans k9_49) ?_
 refine wp_skip ?_
 refine hK5 _ _ ?_
 exact inside_main_c6 fv ps qs ta tn tc bs tb lg wd hh fp fq sl b ka kb m1 m2 tq L9 w hst hbox hI hb hck hT hm1 hm2 hka hkb htq j1 j2 j3 htq1 htq2 hL9 hn9 hmic hmh hml glg gwd ghh gfp gfq g9 W9 (s2 5) (s2 6) (s2 7) a87' c88' g1' c3' g2' c4' g7' c9' g8' c10' g13' c16' g14' c17' g15' c18' (s1 0) (s6 9) (s6 10) k9_1 k9_4 k9_5 k9_6 k9_7 k9_11 fB9 b9_0 b9_1 b9_2 b9_3 b9_4 b9_5 q91' q92' q93' q94' q95' q96' q97' q98' (by omega) (by omega) (by omega) (by omega) (by omega) (by omega)
end Go.Proofs.Ytiocklgakklkpaa
namespace Go.Proofs.Ytiocklgakklkpaa
open Go.RowKit
def lwF (fv : Nat → Int) (i : Nat) : Int := 100 + fv (4 * i + 1)
def ttF (fv : Nat → Int) (i : Nat) : Int := fv (4 * i + 2) % 60
def mmF (fv : Nat → Int) (i : Nat) : Int := fv (4 * i + 3) % 90
def ddF (fv : Nat → Int) (i : Nat) : Int := fv (4 * i + 2) % 20
def pcF (fv : Nat → Int) (i : Nat) : Int := 2000 + 20 * fv (12 + 3 * i)
def prF (fv : Nat → Int) (i : Nat) : Int := pcF fv i * fv (14 + 3 * i)
def eeF (fv : Nat → Int) (i : Nat) : Int := pcF fv i * fv (14 + 3 * i) / 400
def hgF (fv : Nat → Int) (i : Nat) : Int := 1000 + 8 * fv (13 + 3 * i)
def uuF (fv : Nat → Int) (i : Nat) : Int := fv (14 + 3 * i) % 200
/-- The papers and the flutes that the bytes make. -/
def psF (fv : Nat → Int) : Nat → Pa := paF fv (lwF fv) (ttF fv) (mmF fv) (ddF fv)
def qsF (fv : Nat → Int) : Nat → Fu := fuF (pcF fv) (eeF fv) (hgF fv) (uuF fv)
theorem pr_bd {fv : Nat → Int} (gfv : ∀ k, 0 ≤ fv k ∧ fv k ≤ 255) (i : Nat) : 0 ≤ prF fv i ∧ prF fv i ≤ 2000000 := by
  have h1 := gfv (12 + 3 * i); have h2 := gfv (14 + 3 * i)
  have := prod_bd (a := pcF fv i) (b := fv (14 + 3 * i)) (A := 7100) (B := 255) (by unfold pcF; omega) h2
  unfold prF; omega
theorem ee_bd {fv : Nat → Int} (gfv : ∀ k, 0 ≤ fv k ∧ fv k ≤ 255) (i : Nat) : 0 ≤ eeF fv i ∧ eeF fv i ≤ 5000 := by
  have := pr_bd gfv i
  show 0 ≤ prF fv i / 400 ∧ prF fv i / 400 ≤ 5000
  omega
theorem ee_le {fv : Nat → Int} (gfv : ∀ k, 0 ≤ fv k ∧ fv k ≤ 255) (i : Nat) : eeF fv i ≤ pcF fv i := by
  have h1 := gfv (12 + 3 * i); have h2 := gfv (14 + 3 * i)
  have hp : 0 ≤ pcF fv i := by unfold pcF; omega
  have h3 := Int.mul_le_mul_of_nonneg_left h2.2 hp
  show pcF fv i * fv (14 + 3 * i) / 400 ≤ pcF fv i
  omega
theorem fold_in {fv : Nat → Int} (gfv : ∀ k, 0 ≤ fv k ∧ fv k ≤ 255) : FoldIn (psF fv) (qsF fv) := by
  refine ⟨fun i hi => ?_, fun i hi => ?_, rfl, rfl, rfl⟩
  · have g0 := gfv (4 * i); have g1 := gfv (4 * i + 1); have g2 := gfv (4 * i + 2); have g3 := gfv (4 * i + 3)
    refine ⟨?_, ?_, ?_, ?_, ?_, ?_⟩
    · match i, hi with
      | 0, _ => exact .inl rfl
      | 1, _ => exact .inr rfl
      | 2, _ => exact .inl rfl
    · show 1 ≤ 80 + fv (4 * i) ∧ 80 + fv (4 * i) ≤ 1000
      omega
    · show 1 ≤ 100 + fv (4 * i + 1) ∧ 100 + fv (4 * i + 1) ≤ 100 + fv (4 * i + 1) + fv (4 * i + 2) % 60 ∧ 100 + fv (4 * i + 1) + fv (4 * i + 2) % 60 ≤ 1000
      omega
    · show 0 ≤ fv (4 * i + 3) % 90 ∧ fv (4 * i + 3) % 90 ≤ fv (4 * i + 3) % 90 + fv (4 * i + 2) % 20 ∧ fv (4 * i + 3) % 90 + fv (4 * i + 2) % 20 ≤ 200
      omega
    · show 0 ≤ 2000 * fv (4 * i) ∧ 2000 * fv (4 * i) ≤ 1000000
      omega
    · show 0 ≤ 5 * fv (4 * i + 1) ∧ 5 * fv (4 * i + 1) ≤ 10000
      omega
  · have g0 := gfv (12 + 3 * i); have g1 := gfv (13 + 3 * i); have g2 := gfv (14 + 3 * i)
    have e1 := ee_le gfv i; have e2 := ee_bd gfv i
    refine ⟨?_, ?_, ?_⟩
    · show 1000 ≤ 2000 + 20 * fv (12 + 3 * i) ∧ 2000 + 20 * fv (12 + 3 * i) ≤ 10000
      omega
    · show pcF fv i ≤ pcF fv i + eeF fv i ∧ pcF fv i + eeF fv i ≤ 2 * pcF fv i
      omega
    · show 1 ≤ 1000 + 8 * fv (13 + 3 * i) ∧ 1000 + 8 * fv (13 + 3 * i) ≤ 1000 + 8 * fv (13 + 3 * i) + fv (14 + 3 * i) % 200 ∧ 1000 + 8 * fv (13 + 3 * i) + fv (14 + 3 * i) % 200 ≤ 10000
      omega
theorem t2_le {fv : Nat → Int} (gfv : ∀ k, 0 ≤ fv k ∧ fv k ≤ 255) (i : Nat) : (psF fv i).t2 ≤ 414 := by
  have g1 := gfv (4 * i + 1); have g2 := gfv (4 * i + 2)
  show 100 + fv (4 * i + 1) + fv (4 * i + 2) % 60 ≤ 414
  omega
theorem h2_le {fv : Nat → Int} (gfv : ∀ k, 0 ≤ fv k ∧ fv k ≤ 255) (i : Nat) : (qsF fv i).h2 ≤ 3239 := by
  have g1 := gfv (13 + 3 * i); have g2 := gfv (14 + 3 * i)
  show 1000 + 8 * fv (13 + 3 * i) + fv (14 + 3 * i) % 200 ≤ 3239
  omega
theorem hi1_le {fv : Nat → Int} (gfv : ∀ k, 0 ≤ fv k ∧ fv k ≤ 255) : hi1 (psF fv) (qsF fv) ≤ 10000 := by
  have := t2_le gfv 0; have := t2_le gfv 2; have := h2_le gfv 0
  unfold hi1; omega
theorem store_ok {fv : Nat → Int} (gfv : ∀ k, 0 ≤ fv k ∧ fv k ≤ 255) (W : World) : Calls Try.prog 6 #[.agg #[.int .u8 ((fv 0)), .int .u8 ((fv 1)), .int .u8 ((fv 2)), .int .u8 ((fv 3)), .int .u8 ((fv 4)), .int .u8 ((fv 5)), .int .u8 ((fv 6)), .int .u8 ((fv 7)), .int .u8 ((fv 8)), .int .u8 ((fv 9)), .int .u8 ((fv 10)), .int .u8 ((fv 11)), .int .u8 ((fv 12)), .int .u8 ((fv 13)), .int .u8 ((fv 14)), .int .u8 ((fv 15)), .int .u8 ((fv 16)), .int .u8 ((fv 17)), .int .u8 ((fv 18)), .int .u8 ((fv 19)), .int .u8 ((fv 20)), .int .u8 ((fv 21)), .int .u8 ((fv 22)), .int .u8 ((fv 23)), .int .u8 ((fv 24))]] W (StoOP (psF fv) (qsF fv) W) :=
  pubStore_any fv (lwF fv) (ttF fv) (mmF fv) (ddF fv) (pcF fv) (eeF fv) (hgF fv) (uuF fv) (prF fv) W (gfv) (rfl) (rfl) (rfl) (rfl) (rfl) (rfl) (rfl) (rfl) (rfl) (rfl) (rfl) (rfl) (rfl) (rfl) (rfl) (pr_bd gfv 0) (rfl) (ee_bd gfv 0) (rfl) (rfl) (rfl) (rfl) (pr_bd gfv 1) (rfl) (ee_bd gfv 1) (rfl)
/-- The box that the bytes make, with panels and a height that are longer by some. -/
def boxB (fv : Nat → Int) (mo : Int) : Bl := ⟨fv 20 % 50, [(60 + fv 18) + mo, (50 + fv 19) + mo, (60 + fv 18) + mo, (50 + fv 19) + mo], (40 + fv 21) + mo, [(50 + fv 19) / 2 + fv 22 % 3, (50 + fv 19) / 2 + fv 22 % 3], [(50 + fv 19) / 2 + fv 22 % 3, (50 + fv 19) / 2 + fv 22 % 3 + fv 23 % 4], fv 24 % 21, false⟩
theorem boxB_ok {fv : Nat → Int} (gfv : ∀ k, 0 ≤ fv k ∧ fv k ≤ 255) {mo : Int} (hmo : 0 ≤ mo ∧ mo ≤ 1000) : checkErr (boxB fv mo) = 0 := by
  have g18 := gfv 18; have g19 := gfv 19; have g20 := gfv 20; have g21 := gfv 21; have g22 := gfv 22; have g23 := gfv 23; have g24 := gfv 24
  exact check_ok (by omega) (by omega) (by omega) (by omega) (by omega) (by omega) (by omega) (by omega) (by omega) (by omega) (by omega) nofun
theorem box_ok {fv : Nat → Int} (gfv : ∀ k, 0 ≤ fv k ∧ fv k ≤ 255) {mo : Int} (hmo : 0 ≤ mo ∧ mo ≤ 1000) (W : World) : Calls Try.prog 7 #[.agg #[.int .u8 ((fv 0)), .int .u8 ((fv 1)), .int .u8 ((fv 2)), .int .u8 ((fv 3)), .int .u8 ((fv 4)), .int .u8 ((fv 5)), .int .u8 ((fv 6)), .int .u8 ((fv 7)), .int .u8 ((fv 8)), .int .u8 ((fv 9)), .int .u8 ((fv 10)), .int .u8 ((fv 11)), .int .u8 ((fv 12)), .int .u8 ((fv 13)), .int .u8 ((fv 14)), .int .u8 ((fv 15)), .int .u8 ((fv 16)), .int .u8 ((fv 17)), .int .u8 ((fv 18)), .int .u8 ((fv 19)), .int .u8 ((fv 20)), .int .u8 ((fv 21)), .int .u8 ((fv 22)), .int .u8 ((fv 23)), .int .u8 ((fv 24))], .int .i64 mo] W (BoxOP (fv 20 % 50) ((60 + fv 18) + mo) ((50 + fv 19) + mo) ((40 + fv 21) + mo) ((50 + fv 19) / 2 + fv 22 % 3) ((50 + fv 19) / 2 + fv 22 % 3 + fv 23 % 4) (fv 24 % 21) W) :=
  pubBox_any fv mo _ _ _ _ _ _ _ _ _ _ W gfv hmo rfl rfl rfl rfl rfl rfl rfl rfl rfl rfl
end Go.Proofs.Ytiocklgakklkpaa
namespace Go.Proofs.Ytiocklgakklkpaa
open Go.RowKit
theorem inside_law {fv : Nat → Int} (gfv : ∀ k, 0 ≤ fv k ∧ fv k ≤ 255) (ta : Option Addr) (tn tc : Nat) (bs : Nat → Int) (w : World) (hT : ByV w ta tn bs) : Calls Try.prog 4 #[.agg #[.int .u8 ((fv 0)), .int .u8 ((fv 1)), .int .u8 ((fv 2)), .int .u8 ((fv 3)), .int .u8 ((fv 4)), .int .u8 ((fv 5)), .int .u8 ((fv 6)), .int .u8 ((fv 7)), .int .u8 ((fv 8)), .int .u8 ((fv 9)), .int .u8 ((fv 10)), .int .u8 ((fv 11)), .int .u8 ((fv 12)), .int .u8 ((fv 13)), .int .u8 ((fv 14)), .int .u8 ((fv 15)), .int .u8 ((fv 16)), .int .u8 ((fv 17)), .int .u8 ((fv 18)), .int .u8 ((fv 19)), .int .u8 ((fv 20)), .int .u8 ((fv 21)), .int .u8 ((fv 22)), .int .u8 ((fv 23)), .int .u8 ((fv 24))], .slice ta tn tc] w (fun e w' => e = .returned (.bool true) ∧ Below w.heap.size w w') := by
  have hI := fold_in gfv
  have hck := boxB_ok gfv (mo := 0) (by omega)
  have j := lo1_in hI
  have hc := cal1_in hI hT
  have g18 := gfv 18; have g19 := gfv 19; have g20 := gfv 20; have g21 := gfv 21; have g22 := gfv 22; have g23 := gfv 23
  exact inside_main fv (psF fv) (qsF fv) ta tn tc bs _ _ _ _ _ _ _ (boxB fv 0) _ _ _ _ _ _ w (store_ok gfv) (box_ok gfv (by omega)) hI rfl hck hT rfl rfl rfl rfl rfl j.1 j.2 (hi1_le gfv) hc.1 hc.2 rfl (inner_len hck _ _)
    (fun k c hk h1 h2 => by rw [inner_at hck _ _ hk]; exact ⟨mic_le _ h2 k, mic_le _ h1 k⟩) (fun k hk => by rw [inner_at hck _ _ hk]) (fun k hk => by rw [inner_at hck _ _ hk])
    (by omega) (by omega) (by omega) (by omega) (by omega)
end Go.Proofs.Ytiocklgakklkpaa
namespace Go.Proofs.Ytiocklgakklkpaa
open Go.ChangeShapes Go.WideShapes Go.ChangeAt Go.RowKit
theorem lt_of_cell1 {w : World} {a : Addr} {v : Value} (h : w.cell? a = some v) : a.block < w.heap.size := by
  rcases Nat.lt_or_ge a.block w.heap.size with hlt | hge
  · exact hlt
  · have e : w.heap[a.block]? = none := Array.getElem?_eq_none hge
    simp [World.cell?, e] at h
end Go.Proofs.Ytiocklgakklkpaa
namespace Go.Proofs.Ytiocklgakklkpaa
open Go.ChangeShapes Go.WideShapes Go.ChangeAt Go.RowKit
end Go.Proofs.Ytiocklgakklkpaa
namespace Go.Proofs.Ytiocklgakklkpaa
open Go.ChangeShapes Go.WideShapes Go.ChangeAt Go.RowKit
theorem bounds_u8 {n : Int} (h : (Lit.int .u8 n).wf = true) : 0 ≤ n ∧ n ≤ 255 := by
  simp only [Lit.wf, Bool.and_eq_true, decide_eq_true_eq] at h
  exact h
/-- Small whole numbers in an array: each cell is one. -/
theorem open_arr {k : IntKind} {e : TypeId} {H : Type} {enc : TypeId × Value → H} {W : World} {spare : Nat → Bool} {held : Bool} {fuel n : Nat} {t : TypeId} {cs : List Value} {y : DataW H × List MemPlace} (he : Try.prog.underlying e = some (.int k)) (hc : Try.prog.cellsOf e = 1) (ht : Try.prog.underlying t = some (.array n e)) (hf : DataW.trod enc Try.prog W 0 spare held fuel t cs = some y) (hn : cs.length = n) :
    ∀ i, i < n → ∃ x, cs[i]? = some (.int k x) ∧ (Lit.int k x).wf = true := by
  obtain ⟨xs, m, _, _, hl, hlen, hel⟩ := DataW.trod_array ht hf
  intro i hi
  have f := hel i hi
  rw [hc, Nat.mul_one] at f
  rw [List.getElem?_eq_getElem (by omega : i < xs.length)] at f
  obtain ⟨x, q, -, wf⟩ := DataW.trod_int he f
  refine ⟨x, ?_, wf⟩
  have h1 : ((cs.drop i).take 1)[0]? = some (.int k x) := by rw [q]; rfl
  simpa using h1
end Go.Proofs.Ytiocklgakklkpaa
namespace Go.Proofs.Ytiocklgakklkpaa
open Go.ChangeShapes Go.WideShapes Go.ChangeAt Go.RowKit
/-- Small whole numbers in an array of arrays: each cell is one. -/
theorem open_arr2 {k : IntKind} {e e2 : TypeId} {H : Type} {enc : TypeId × Value → H} {W : World} {spare : Nat → Bool} {held : Bool} {fuel n m : Nat} {t : TypeId} {cs : List Value} {y : DataW H × List MemPlace} (he : Try.prog.underlying e = some (.int k)) (hc : Try.prog.cellsOf e = 1) (he2 : Try.prog.underlying e2 = some (.array m e)) (hc2 : Try.prog.cellsOf e2 = m) (ht : Try.prog.underlying t = some (.array n e2)) (hf : DataW.trod enc Try.prog W 0 spare held fuel t cs = some y) (hn : cs.length = n * m) :
    ∀ i j, i < n → j < m → ∃ x, cs[i * m + j]? = some (.int k x) ∧ (Lit.int k x).wf = true := by
  obtain ⟨xs, m', _, _, hl, hlen, hel⟩ := DataW.trod_array ht hf
  intro i j hi hj
  have f := hel i hi
  rw [hc2, List.getElem?_eq_getElem (by omega : i < xs.length)] at f
  have hle : (i + 1) * m ≤ n * m := Nat.mul_le_mul_right m hi
  rw [Nat.add_mul, Nat.one_mul] at hle
  obtain ⟨x, e1, w⟩ := open_arr he hc he2 f (by rw [List.length_take, List.length_drop]; omega) j hj
  refine ⟨x, ?_, w⟩
  rw [List.getElem?_take_of_lt hj, List.getElem?_drop] at e1
  exact e1
set_option maxRecDepth 100000 in
/-- A list of bytes that came in. -/
theorem open_bytes {H : Type} {enc : TypeId × Value → H} {W : World} {r : Reach} {b0 : Nat} {spare : Nat → Bool} {held : Bool} {v : Value} {d : DataW H} {ps : List MemPlace}
    (hv : Value.okWide Try.prog W r b0 29 v) (h : DataW.Trod enc Try.prog W 0 spare held 29 v d ps) : ∃ a n c bs, v = .slice a n c ∧ ByV W a n bs := by
  obtain ⟨a, n, c, rfl⟩ := okWide_slice Try.underlying29 hv
  obtain ⟨fuel, hf⟩ := h
  rcases open_ints (k := .u8) Try.underlying29 Try.underlying5 (by kernel_rfl) hf with ⟨hcs, _⟩ | ⟨x, l, c', zs, hcs, _, hl, hm, hz, _, hcell, hwz⟩
  · have e := (List.cons.inj hcs).1
    obtain ⟨rfl, rfl, rfl⟩ := Value.slice.inj e
    exact ⟨_, _, _, fun _ => 0, rfl, .inl rfl⟩
  · have e := (List.cons.inj hcs).1
    obtain ⟨rfl, rfl, rfl⟩ := Value.slice.inj e
    refine ⟨_, _, _, fun i => zs.getD i 0, rfl, ?_⟩
    by_cases h0 : n = 0
    · exact .inl h0
    · obtain ⟨b, off, spot⟩ := x
      have hz' : n ≤ zs.length := by rw [hz]; split <;> omega
      have hc := hcell 0 (by omega)
      have hspot : spot = none := by simpa [Addr.add] using World.cell?_spot hc
      subst hspot
      refine .inr ⟨b, off, rfl, ⟨lt_of_cell1 (a := (⟨b, off, none⟩ : Addr).add 0) hc, fun i hi => ?_⟩, by unfold maxLen at hm; omega, fun i hi => ?_⟩
      · have h := hcell i (by omega)
        have ea : ((⟨b, off, none⟩ : Addr).add i) = ⟨b, off + i, none⟩ := add_plain b off i
        rw [ea] at h
        rw [h]
        first | done | simp [List.getD_eq_getElem?_getD, (by omega : i < zs.length)]
      · have hlt : i < zs.length := by omega
        have := hwz (zs[i]) (List.getElem_mem hlt)
        simp only [List.getD_eq_getElem?_getD, List.getElem?_eq_getElem hlt, Option.getD_some]
        exact bounds_u8 this
set_option maxRecDepth 100000 in
theorem open_fold {H : Type} {enc : TypeId × Value → H} {W : World} {r : Reach} {b0 : Nat} {spare : Nat → Bool} {held : Bool} {v : Value} {d : DataW H} {ps : List MemPlace}
    (hv : Value.okWide Try.prog W r b0 28 v) (h : DataW.Trod enc Try.prog W 0 spare held 28 v d ps) :
    ∃ fv : Nat → Int, v = .agg #[.int .u8 (fv 0), .int .u8 (fv 1), .int .u8 (fv 2), .int .u8 (fv 3), .int .u8 (fv 4), .int .u8 (fv 5), .int .u8 (fv 6), .int .u8 (fv 7), .int .u8 (fv 8), .int .u8 (fv 9), .int .u8 (fv 10), .int .u8 (fv 11), .int .u8 (fv 12), .int .u8 (fv 13), .int .u8 (fv 14), .int .u8 (fv 15), .int .u8 (fv 16), .int .u8 (fv 17), .int .u8 (fv 18), .int .u8 (fv 19), .int .u8 (fv 20), .int .u8 (fv 21), .int .u8 (fv 22), .int .u8 (fv 23), .int .u8 (fv 24)] ∧ ∀ k, 0 ≤ fv k ∧ fv k ≤ 255 := by
  obtain ⟨cs, rfl, hsz⟩ := okWide_struct Try.underlying28 hv
  obtain ⟨fuel, hf⟩ := h
  obtain ⟨xs, n, _, _, hl, hlen, hfld⟩ := DataW.trod_struct Try.underlying28 hf
  have e25 : Try.prog.cellsOf 28 = 25 := by kernel_rfl
  rw [e25] at hsz
  have c12 : Try.prog.cellsOf 23 = 12 := by kernel_rfl
  have c4 : Try.prog.cellsOf 22 = 4 := by kernel_rfl
  have c6 : Try.prog.cellsOf 25 = 6 := by kernel_rfl
  have c3 : Try.prog.cellsOf 24 = 3 := by kernel_rfl
  have c7 : Try.prog.cellsOf 26 = 7 := by kernel_rfl
  have u1 : Try.prog.cellsOf 5 = 1 := by kernel_rfl
  obtain ⟨l⟩ := cs
  have hl25 : l.length = 25 := hsz
  match xs, hlen with
  | [y0, y1, y2], _ =>
    have f0 : DataW.trod enc Try.prog W 0 spare held n 23 ((l.drop 0).take (Try.prog.cellsOf 23)) = some y0 := hfld 0 _ rfl
    have f1 : DataW.trod enc Try.prog W 0 spare held n 25 ((l.drop 12).take (Try.prog.cellsOf 25)) = some y1 := hfld 1 _ rfl
    have f2 : DataW.trod enc Try.prog W 0 spare held n 26 ((l.drop 18).take (Try.prog.cellsOf 26)) = some y2 := hfld 2 _ rfl
    rw [c12] at f0
    rw [c6] at f1
    rw [c7] at f2
    have A0 := open_arr2 Try.underlying5 u1 Try.underlying22 c4 Try.underlying23 f0 (by rw [List.length_take, List.length_drop]; omega)
    have A1 := open_arr2 Try.underlying5 u1 Try.underlying24 c3 Try.underlying25 f1 (by rw [List.length_take, List.length_drop]; omega)
    have A2 := open_arr Try.underlying5 u1 Try.underlying26 f2 (by rw [List.length_take, List.length_drop]; omega)
    have key : ∀ i, i < 25 → ∃ x, l[i]? = some (.int .u8 x) ∧ 0 ≤ x ∧ x ≤ 255 := by
      intro i hi
      by_cases h1 : i < 12
      · obtain ⟨x, e, w⟩ := A0 (i / 4) (i % 4) (by omega) (by omega)
        refine ⟨x, ?_, bounds_u8 w⟩
        rw [show i / 4 * 4 + i % 4 = i by omega, List.getElem?_take_of_lt h1, List.getElem?_drop, Nat.zero_add] at e
        exact e
      · by_cases h2 : i < 18
        · obtain ⟨x, e, w⟩ := A1 ((i - 12) / 3) ((i - 12) % 3) (by omega) (by omega)
          refine ⟨x, ?_, bounds_u8 w⟩
          rw [show (i - 12) / 3 * 3 + (i - 12) % 3 = i - 12 by omega, List.getElem?_take_of_lt (by omega), List.getElem?_drop, show 12 + (i - 12) = i by omega] at e
          exact e
        · obtain ⟨x, e, w⟩ := A2 (i - 18) (by omega)
          refine ⟨x, ?_, bounds_u8 w⟩
          rw [List.getElem?_take_of_lt (by omega), List.getElem?_drop, show 18 + (i - 18) = i by omega] at e
          exact e
    obtain ⟨fv, hfv⟩ : ∃ fv : Nat → Int, (∀ i, i < 25 → l[i]? = some (.int .u8 (fv i))) ∧ ∀ k, 0 ≤ fv k ∧ fv k ≤ 255 := by
      refine ⟨fun i => if h : i < 25 then Classical.choose (key i h) else 0, fun i hi => ?_, fun k => ?_⟩
      · simp only [dif_pos hi]; exact (Classical.choose_spec (key i hi)).1
      · by_cases hk : k < 25
        · simp only [dif_pos hk]; exact (Classical.choose_spec (key k hk)).2
        · simp only [dif_neg hk]; omega
    refine ⟨fv, ?_, hfv.2⟩
    have e : l = (List.range 25).map fun i => Value.int .u8 (fv i) := by
      apply List.ext_getElem?
      intro i
      by_cases hi : i < 25
      · rw [hfv.1 i hi, List.getElem?_map, List.getElem?_range hi]; rfl
      · rw [List.getElem?_eq_none (by omega), List.getElem?_eq_none (by simp; omega)]
    rw [e]
    rfl
end Go.Proofs.Ytiocklgakklkpaa
