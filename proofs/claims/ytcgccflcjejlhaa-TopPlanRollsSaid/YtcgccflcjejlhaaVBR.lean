/- Part of the proof: what the claim leans on. -/
import Derived.Test.YtcgccflcjejlhaaVBJ
import Derived.Test.YtcgccflcjejlhaaVBQ
set_option maxHeartbeats 16000000
set_option maxRecDepth 100000
set_option linter.unusedSimpArgs false
set_option linter.unusedVariables false
namespace Go.Proofs.Ytcgccflcjejlhaa
open Go.RowKit
theorem rolls_f (tl : Int) (ta : Option Addr) (nb cb : Nat) (bs : Nat → Int) (sp : Nat → Int × Int) (ln lg : Nat → Int) (t : Int) (m nq : Nat) (htl : 0 ≤ tl ∧ tl ≤ 49) (hlne_ : lnF sp nb bs = ln) (htt_ : (bgF lg m * 4 + 2) / 3 = t) (gm : m ≤ 3) (gnq : nq ≤ 5) (hq : ∀ i, i < m → RdIn (lg i)) (ho : ∀ i, i < nq → RoIn tl (sp i)) (hfl : fltB (badB 4 3 tl sp nq lg) m = false) (w0 w : World) (hbase_ : Below w0.heap.size w0 w) (hT : ByV w ta nb bs) (b21 b24 : Nat) (r21 ra qa rr : Option Addr) (n21 c21 c24 cq cr : Nat) (h21 : w.heap[b21]? = some (.cells #[.int .i64 4, .int .i64 3, .int .i64 tl, .slice r21 n21 c21] 80 (0, 0))) (h24 : w.heap[b24]? = some (.cells #[.int .i64 4, .int .i64 3, .int .i64 tl, .slice ra nq c24] 80 (0, 0))) (hO : SpL w ra nq sp) (hQ : RdL w qa m lg) (hRs : SpL w rr nq (rsF tl sp t)) (g : Nat → Value) (k_2 : g 2 = .slice ta nb cb) (k_16 : g 16 = .slice qa m cq) (k_17 : g 17 = .int .i64 ((bgF lg m))) (k_21 : g 21 = .pointer (some ⟨b21, 0, none⟩)) (k_24 : g 24 = .pointer (some ⟨b24, 0, none⟩)) (k_30 : g 30 = .slice rr nq cr) :
  (tailC 17 (bodyC Try.f4)).wp Try.prog (bodyPost Try.prog Try.f4 (fun e w' => e = .returned (.bool true) ∧ Below w0.heap.size w0 w')) (fr 426 g) w := by
 have hrun_ := bgF_bd hq m (Nat.le_refl _)
 have ht0_ : 0 ≤ t := by omega
 have hln_ : ∀ i, i < nq → tl < (sp i).1 ∧ (sp i).1 ≤ ln i ∧ ln i ≤ (sp i).2 := fun i hi => by have h0 := (ho i hi).h; have h1 := inF_in (ho i hi) (hT.at i); rw [← hlne_]; exact ⟨by omega, h1.1, h1.2.1⟩
 have hu_ : 0 ≤ (usplF tl sp nq).1 := (usplF_bd (by omega) ho nq (Nat.le_refl _)).1
 obtain ⟨br_, or_, hrr_⟩ := hRs.at'
 obtain ⟨bq_, oq_, hqq_⟩ := hQ.at'
 have fB0 : Below w.heap.size w w := Below.refl _ _
 have lt_b21 := ltb h21
 have lt_b24 := ltb h24
 refine rx 10 [(340, 0), (341, 1), (342, 2), (343, 3), (344, 4), (345, 5), (346, 6), (32, 7), (33, 8), (34, 9)] [[], [], [0, 1], [], [3], [4], [5], [2], [6], []] (rel [is (.agg #[.int .i64 4, .int .i64 3, .int .i64 tl, .slice ra nq c24]), is (.slice ta nb cb), ab fun v W => IsLn nq ln v W, iI ((bgF lg m)), iI ((bgF lg m) * 4), iI (((bgF lg m) * 4) + 2), iI t, ab fun v W => IsLn nq ln v W, iI t, iI 0])
  ⟨is_k, is_k, ab_k fun v W W' hb h => (IsLn.below h hb), is_k, is_k, is_k, is_k, ab_k fun v W W' hb h => (IsLn.below h hb), is_k, is_k, trivial⟩
  ⟨fun f s W l n o p q a => opv rfl rfl (by simp [go_sem, a.e 24 k_24, cl (bwb h24 l) 0, cl (bwb h24 l) 1, cl (bwb h24 l) 2, cl (bwb h24 l) 3]) rfl,
  fun f s W l n o p q a => opm (a.v 2 k_2),
  fun f s W l n o p q a => by have r := bwt fB0 l; exact opd rfl rfl (by simp [go_sem, a.e 340 (n 0 rfl), a.e 341 (n 1 rfl)]) (arm_lengths 4 3 tl sp ra ta nq c24 nb cb bs W (hO.below r) (by omega) (fun i hi => by have h0 := (ho i hi).h; omega) (hT.below r)) ((fun e W' h => by obtain ⟨v, e1, h1, h2⟩ := h; rw [hlne_] at h1; exact ⟨_, e1, h2, h1⟩)),
  fun f s W l n o p q a => opm (a.v 17 k_17),
  fun f s W l n o p q a => opv rfl rfl (by simp [go_sem, a.e 343 (n 3 rfl), IntWalk.i64_in ((bgF lg m) * 4) (by omega)]) rfl,
  fun f s W l n o p q a => opv rfl rfl (by simp [go_sem, a.e 344 (n 4 rfl), IntWalk.i64_in (((bgF lg m) * 4) + 2) (by omega)]) rfl,
  fun f s W l n o p q a => by have qu_ : (((bgF lg m) * 4) + 2).tdiv 3 = t := (Int.tdiv_eq_ediv_of_nonneg (by omega)).trans htt_; have qw_ := IntWalk.i64_in t (by omega); exact opv rfl rfl (by simp [go_sem, a.e 345 (n 5 rfl), qu_, qw_]) rfl,
  fun f s W l n o p q a => opv (v := (f 2)) rfl rfl (by simp [go_sem, (a.at' 342 rfl : q.tmps[342]?.getD undef = f 2)] <;> rfl) (n 2 rfl),
  fun f s W l n o p q a => opm (a.v 346 (n 6 rfl)),
  fun f s W l n o p q a => opz, trivial⟩ ?_
 intro f1 s1 W1 hB1 g1 hg1 z1
 obtain ⟨a34', c35', r1_7, q36'⟩ := hB1.is 7
 obtain ⟨bl_, ebl_⟩ := LnL.some q36'
 subst ebl_
 refine wp_seq_k fun K2 hK2 => ?_
 refine rw_ 1 [(35, 0)] [[]] (rel [iI 0])
  ⟨fun f s W l n o p q a => opz, trivial⟩ ?_
 intro f2 s2 W2 hB2 g2 hg2 z2
 have fB2 := hB2.f (hB1.f fB0)
 have b2_0 := hB2.b (hB1.b h21)
 have b2_1 := hB2.b (hB1.b h24)
 have q37' := (LnL.below q36' hB2.below)
 have k2_16 := kt hg2 16 (kt hg1 16 k_16)
 have k2_17 := kt hg2 17 (kt hg1 17 k_17)
 have k2_21 := kt hg2 21 (kt hg1 21 k_21)
 have k2_30 := kt hg2 30 (kt hg1 30 k_30)
 have k2_32 := kt hg2 32 (kt hg1 32 r1_7)
 have k2_33 := kt hg2 33 (kt hg1 33 (hB1.is 8))
 have k2_34 := kt hg2 34 (kt hg1 34 (hB1.is 9))
 have k2_35 := kt hg2 35 (hB2.is 0)
 refine wp_block ?_
 refine wp_loop_n (fun m_ a_ W_ => ∃ g_ : Nat → Value, a_ = fr 426 g_ ∧ (∃ k : Nat, m_ = nq - k ∧ g_ 16 = .slice qa m cq ∧ g_ 17 = .int .i64 ((bgF lg m)) ∧ g_ 21 = .pointer (some ⟨b21, 0, none⟩) ∧ g_ 30 = .slice rr nq cr ∧ g_ 32 = .slice (some ⟨bl_, 0, none⟩) nq c35' ∧ g_ 35 = .int .i64 ((k : Int)) ∧ g_ 33 = .int .i64 ((leF tl t ln k)) ∧ g_ 34 = .int .i64 ((atR tl ln k)) ∧ Below w.heap.size w W_ ∧ W2.heap.size ≤ W_.heap.size ∧ W_.heap[b21]? = some (.cells #[.int .i64 4, .int .i64 3, .int .i64 tl, .slice r21 n21 c21] 80 (0, 0)) ∧ W_.heap[b24]? = some (.cells #[.int .i64 4, .int .i64 3, .int .i64 tl, .slice ra nq c24] 80 (0, 0)) ∧ LnL W_ (some ⟨bl_, 0, none⟩) nq ln ∧ (k ≤ nq))) ⟨_, g2, rfl, 0, rfl, k2_16, k2_17, k2_21, k2_30, k2_32, k2_35.trans (by rfl), k2_33.trans (by rfl), k2_34.trans (by rfl), fB2, Nat.le_refl _, b2_0, b2_1, q37', (by omega)⟩ ?_
 rintro _ _ W_38 ⟨g_38, rfl, k, rfl, k_38_16, k_38_17, k_38_21, k_38_30, k_38_32, k_38_35, k_38_33, k_38_34, fB_38, z_38, b_38_0, b_38_1, q39', lk0⟩
 have hbd_ := roll_bd ht0_ htl ho hln_ lk0
 refine wp_seq_k fun K4 hK4 => ?_
 refine rw_ 4 [(347, 0), (348, 1), (349, 2), (350, 3)] [[], [], [1], [0, 2]] (rel [iI ((k : Int)), is (.slice (some ⟨bl_, 0, none⟩) nq c35'), iI ((nq : Int)), iB (decide ((k : Int) < (nq : Int)))])
  ⟨fun f s W l n o p q a => opm (a.v 35 k_38_35),
  fun f s W l n o p q a => opm (a.v 32 k_38_32),
  fun f s W l n o p q a => opv rfl rfl (by simp [go_sem, a.e 348 (n 1 rfl)]) rfl,
  fun f s W l n o p q a => opv rfl rfl (by simp [go_sem, a.e 347 (n 0 rfl), a.e 349 (n 2 rfl)]) rfl, trivial⟩ ?_
 intro f3 s3 W3 hB3 g3 hg3 z3
 have fB3 := hB3.f fB_38
 have b3_0 := hB3.b b_38_0
 have q40' := (LnL.below q39' hB3.below)
 have k3_21 := kt hg3 21 k_38_21
 have k3_32 := kt hg3 32 k_38_32
 have k3_35 := kt hg3 35 k_38_35
 have k3_33 := kt hg3 33 k_38_33
 have k3_350 := kt hg3 350 (hB3.is 3)
 refine wp_cond_split (t := decide ((k : Int) < (nq : Int))) ((fr_eval rfl).trans k3_350) (fun hc6 => ?_) (fun hc6 => ?_)
 ·
  have hc6' := hc6; try simp only [ba] at hc6'
  have hkn : k < nq := by omega
  have hlk_ := hln_ k hkn
  have hok_ := (ho k hkn).h
  have hb1_ := roll_bd ht0_ htl ho hln_ (show k + 1 ≤ nq by omega)
  have hri_ := rest_in ht0_ hln_ hkn
  have hwi_ : (decide ((rsF tl sp t k).1 ≤ (ln k) - (min (leF tl t ln k) ((ln k) - tl))) && decide ((ln k) - (min (leF tl t ln k) ((ln k) - tl)) ≤ (rsF tl sp t k).2)) = true := by rw [Bool.and_eq_true]; exact ⟨decide_eq_true hri_.1, decide_eq_true hri_.2⟩
  have hap_ : ((atR tl ln (k + 1)) == 0) = false := beq_false_of_ne (by have := (atR_in hln_ (k + 1) (by omega)).2.2.2 (by omega); omega)
  refine wp_skip ?_
  refine hK4 _ _ ?_
  refine wp_seq_k fun K7 hK7 => ?_
  refine wp_block ?_
  refine rw_ 10 [(353, 0), (354, 1), (355, 2), (356, 3), (357, 4), (358, 5), (359, 6), (360, 7), (361, 8), (36, 9)] [[], [], [], [1, 2], [3], [], [5], [4, 6], [0, 7], [8]] (rel [iI ((leF tl t ln k)), is (.slice (some ⟨bl_, 0, none⟩) nq c35'), iI ((k : Int)), is (.pointer (some ⟨bl_, k, none⟩)), iI ((ln k)), is (.pointer (some ⟨b21, 2, none⟩)), iI tl, iI ((ln k) - tl), iI (min (leF tl t ln k) ((ln k) - tl)), iI (min (leF tl t ln k) ((ln k) - tl))])
   ⟨fun f s W l n o p q a => opm (a.v 33 k3_33),
  fun f s W l n o p q a => opm (a.v 32 k3_32),
  fun f s W l n o p q a => opm (a.v 35 k3_35),
  fun f s W l n o p q a => by have li_ := Nat.not_le.2 hkn; have li2_ : (k : Int) < (nq : Int) := (by omega); exact opv rfl rfl (by simp [go_sem, a.e 354 (n 1 rfl), a.e 355 (n 2 rfl), li_, li2_]) rfl,
  fun f s W l n o p q a => by have cu_ := ln_at (LnL.below q40' l) hkn; exact opv rfl rfl (by simp [go_sem, a.e 356 (n 3 rfl), cu_]) rfl,
  fun f s W l n o p q a => opv rfl rfl (by simp [go_sem, a.e 21 k3_21]) rfl,
  fun f s W l n o p q a => opv rfl rfl (by simp [go_sem, a.e 358 (n 5 rfl), cl (bwb b3_0 l) 2]) rfl,
  fun f s W l n o p q a => opv rfl rfl (by simp [go_sem, a.e 357 (n 4 rfl), a.e 359 (n 6 rfl), IntWalk.i64_in ((ln k) - tl) (by omega)]) rfl,
  fun f s W l n o p q a => opv rfl rfl (by simp [go_sem, a.e 353 (n 0 rfl), a.e 360 (n 7 rfl)]) rfl,
  fun f s W l n o p q a => opm (a.v 361 (n 8 rfl)), trivial⟩ ?_
  intro f4 s4 W4 hB4 g4 hg4 z4
  have q41' := (LnL.below q40' hB4.below)
  have k4_33 := kt hg4 33 k3_33
  have k4_36 := kt hg4 36 (hB4.is 9)
  refine rw_ 4 [(362, 0), (363, 1), (364, 2), (33, 3)] [[], [], [0, 1], [0, 2]] (rel [iI ((leF tl t ln k)), iI (min (leF tl t ln k) ((ln k) - tl)), iI ((leF tl t ln k) - (min (leF tl t ln k) ((ln k) - tl))), iI ((leF tl t ln k) - (min (leF tl t ln k) ((ln k) - tl)))])
   ⟨fun f s W l n o p q a => opm (a.v 33 ((p 3 33 rfl rfl).trans k4_33)),
  fun f s W l n o p q a => opm (a.v 36 k4_36),
  fun f s W l n o p q a => opv rfl rfl (by simp [go_sem, a.e 362 (n 0 rfl), a.e 363 (n 1 rfl), IntWalk.i64_in ((leF tl t ln k) - (min (leF tl t ln k) ((ln k) - tl))) (by omega)]) rfl,
  fun f s W l n o p q a => opm (a.v 364 (n 2 rfl)), trivial⟩ ?_
  intro f5 s5 W5 hB5 g5 hg5 z5
  have fB5 := hB5.f (hB4.f fB3)
  have q42' := (LnL.below q41' hB5.below)
  have k5_30 := kt hg5 30 (kt hg4 30 (kt hg3 30 k_38_30))
  have k5_32 := kt hg5 32 (kt hg4 32 k3_32)
  have k5_35 := kt hg5 35 (kt hg4 35 k3_35)
  have k5_36 := kt hg5 36 k4_36
  refine wp_seq_k fun K10 hK10 => ?_
  refine rw_ 12 [(365, 0), (366, 1), (367, 2), (368, 3), (369, 4), (370, 5), (371, 6), (372, 7), (373, 8), (374, 9), (375, 10), (376, 11)] [[], [], [0, 1], [2], [], [3, 4], [], [], [6, 7], [8], [5, 9], [10]] (rel [is (.slice (some ⟨bl_, 0, none⟩) nq c35'), iI ((k : Int)), is (.pointer (some ⟨bl_, k, none⟩)), iI ((ln k)), iI (min (leF tl t ln k) ((ln k) - tl)), iI ((ln k) - (min (leF tl t ln k) ((ln k) - tl))), is (.slice rr nq cr), iI ((k : Int)), is (.pointer (some ⟨br_, or_ + k * 2, none⟩)), is (.agg #[.int .i64 ((rsF tl sp t k).1), .int .i64 ((rsF tl sp t k).2)]), iB true, iB false])
   ⟨fun f s W l n o p q a => opm (a.v 32 k5_32),
  fun f s W l n o p q a => opm (a.v 35 k5_35),
  fun f s W l n o p q a => by have li_ := Nat.not_le.2 hkn; have li2_ : (k : Int) < (nq : Int) := (by omega); exact opv rfl rfl (by simp [go_sem, a.e 365 (n 0 rfl), a.e 366 (n 1 rfl), li_, li2_]) rfl,
  fun f s W l n o p q a => by have cu_ := ln_at (LnL.below q42' l) hkn; exact opv rfl rfl (by simp [go_sem, a.e 367 (n 2 rfl), cu_]) rfl,
  fun f s W l n o p q a => opm (a.v 36 k5_36),
  fun f s W l n o p q a => opv rfl rfl (by simp [go_sem, a.e 368 (n 3 rfl), a.e 369 (n 4 rfl), IntWalk.i64_in ((ln k) - (min (leF tl t ln k) ((ln k) - tl))) (by omega)]) rfl,
  fun f s W l n o p q a => opm (a.v 30 k5_30),
  fun f s W l n o p q a => opm (a.v 35 k5_35),
  fun f s W l n o p q a => by have hab := (hrr_ (by omega)).1; have li_ := Nat.not_le.2 hkn; have li2_ : (k : Int) < (nq : Int) := (by omega); exact opv rfl rfl (by simp [go_sem, a.e 371 (n 6 rfl), a.e 372 (n 7 rfl), hab, li_, li2_]) rfl,
  fun f s W l n o p q a => by have r := bwt fB5 l; have cu_ := (((hrr_ (by omega)).2).below r).2 k hkn; have cu0_ := cu_.1; have cu1_ := cu_.2; exact opv rfl rfl (by simp [go_sem, a.e 373 (n 8 rfl), cu0_, cu1_]) rfl,
  fun f s W l n o p q a => opd rfl rfl (by simp [go_sem, a.e 370 (n 5 rfl), a.e 374 (n 9 rfl)]) (arm_within ((ln k) - (min (leF tl t ln k) ((ln k) - tl))) ((rsF tl sp t k).1) ((rsF tl sp t k).2) W) ((fun e W' h => ⟨.bool true, h.1.trans (by rw [hwi_]), h.2, rfl⟩)),
  fun f s W l n o p q a => opv rfl rfl (by simp [go_sem, a.e 375 (n 10 rfl)]) rfl, trivial⟩ ?_
  intro f6 s6 W6 hB6 g6 hg6 z6
  have b6_0 := hB6.b (hB5.b (hB4.b b3_0))
  have q43' := (LnL.below q42' hB6.below)
  have k6_21 := kt hg6 21 (kt hg5 21 (kt hg4 21 k3_21))
  have k6_32 := kt hg6 32 k5_32
  have k6_35 := kt hg6 35 k5_35
  have k6_34 := kt hg6 34 (kt hg5 34 (kt hg4 34 (kt hg3 34 k_38_34)))
  have k6_376 := kt hg6 376 (hB6.is 11)
  refine wp_cond_false ((fr_eval rfl).trans k6_376) ?_
  refine wp_skip ?_
  refine hK10 _ _ ?_
  refine rw_ 10 [(377, 0), (378, 1), (379, 2), (380, 3), (381, 4), (382, 5), (383, 6), (384, 7), (385, 8), (34, 9)] [[], [], [], [1, 2], [3], [], [5], [4, 6], [0, 7], [0, 8]] (rel [iI ((atR tl ln k)), is (.slice (some ⟨bl_, 0, none⟩) nq c35'), iI ((k : Int)), is (.pointer (some ⟨bl_, k, none⟩)), iI ((ln k)), is (.pointer (some ⟨b21, 2, none⟩)), iI tl, iI ((ln k) - tl), iI ((atR tl ln (k + 1))), iI ((atR tl ln (k + 1)))])
   ⟨fun f s W l n o p q a => opm (a.v 34 ((p 9 34 rfl rfl).trans k6_34)),
  fun f s W l n o p q a => opm (a.v 32 k6_32),
  fun f s W l n o p q a => opm (a.v 35 k6_35),
  fun f s W l n o p q a => by have li_ := Nat.not_le.2 hkn; have li2_ : (k : Int) < (nq : Int) := (by omega); exact opv rfl rfl (by simp [go_sem, a.e 378 (n 1 rfl), a.e 379 (n 2 rfl), li_, li2_]) rfl,
  fun f s W l n o p q a => by have cu_ := ln_at (LnL.below q43' l) hkn; exact opv rfl rfl (by simp [go_sem, a.e 380 (n 3 rfl), cu_]) rfl,
  fun f s W l n o p q a => opv rfl rfl (by simp [go_sem, a.e 21 k6_21]) rfl,
  fun f s W l n o p q a => opv rfl rfl (by simp [go_sem, a.e 382 (n 5 rfl), cl (bwb b6_0 l) 2]) rfl,
  fun f s W l n o p q a => opv rfl rfl (by simp [go_sem, a.e 381 (n 4 rfl), a.e 383 (n 6 rfl), IntWalk.i64_in ((ln k) - tl) (by omega)]) rfl,
  fun f s W l n o p q a => by have rn_ : (atR tl ln k) + ((ln k) - tl) = (atR tl ln (k + 1)) := rfl; have rm_ := IntWalk.i64_in (atR tl ln (k + 1)) (by omega); exact opv rfl rfl (by simp [go_sem, a.e 377 (n 0 rfl), a.e 384 (n 7 rfl), IntWalk.i64_in ((atR tl ln k) + ((ln k) - tl)) (by omega), rn_, rm_]) rfl,
  fun f s W l n o p q a => opm (a.v 385 (n 8 rfl)), trivial⟩ ?_
  intro f7 s7 W7 hB7 g7 hg7 z7
  have q44' := (LnL.below q43' hB7.below)
  have k7_17 := kt hg7 17 (kt hg6 17 (kt hg5 17 (kt hg4 17 (kt hg3 17 k_38_17))))
  have k7_34 := kt hg7 34 (hB7.is 9)
  refine rw_ 11 [(386, 0), (387, 1), (388, 2), (389, 3), (390, 4), (391, 5), (392, 6), (393, 7), (394, 8), (37, 9), (38, 10)] [[], [0], [], [2], [1, 3], [4], [5], [5, 6], [5, 7], [], [8]] (rel [iI ((atR tl ln (k + 1))), iI ((atR tl ln (k + 1)) * 3), iI ((bgF lg m)), iI ((bgF lg m) * 4), iB (decide (((bgF lg m) * 4) ≤ ((atR tl ln (k + 1)) * 3))), iB (decide (((bgF lg m) * 4) ≤ ((atR tl ln (k + 1)) * 3))), gd (decide (((bgF lg m) * 4) ≤ ((atR tl ln (k + 1)) * 3))) false (iI ((atR tl ln (k + 1)))), gd (decide (((bgF lg m) * 4) ≤ ((atR tl ln (k + 1)) * 3))) false (iB false), iB (decide (((bgF lg m) * 4) ≤ ((atR tl ln (k + 1)) * 3))), iI 0, iB (decide (((bgF lg m) * 4) ≤ ((atR tl ln (k + 1)) * 3)))])
   ⟨fun f s W l n o p q a => opm (a.v 34 k7_34),
  fun f s W l n o p q a => opv rfl rfl (by simp [go_sem, a.e 386 (n 0 rfl), IntWalk.i64_in ((atR tl ln (k + 1)) * 3) (by omega)]) rfl,
  fun f s W l n o p q a => opm (a.v 17 k7_17),
  fun f s W l n o p q a => opv rfl rfl (by simp [go_sem, a.e 388 (n 2 rfl), IntWalk.i64_in ((bgF lg m) * 4) (by omega)]) rfl,
  fun f s W l n o p q a => opv rfl rfl (by simp [go_sem, a.e 387 (n 1 rfl), a.e 389 (n 3 rfl)]) rfl,
  fun f s W l n o p q a => opm (a.v 390 (n 4 rfl)),
  fun f s W l n o p q a => gdo rfl rfl (a.says (d := 391) rfl rfl (n 5 rfl)) fun hgd0 => gv (by simp [go_sem, a.e 34 k7_34]) rfl,
  fun f s W l n o p q a => gdo rfl rfl (a.says (d := 391) rfl rfl (n 5 rfl)) fun hgd0 => gv (by simp [go_sem, a.e 392 ((n 6 rfl).1 hgd0), hap_]) rfl,
  fun f s W l n o p q a => opk (c := decide (((bgF lg m) * 4) ≤ ((atR tl ln (k + 1)) * 3))) rfl rfl (fun hpk => by first | (simp [go_sem, hpk, a.e 391 (n 5 rfl), a.e 393 ((n 7 rfl).1 hpk)]; done) | (have hpk' := hpk; simp at hpk'; simp [go_sem, hpk', hpk, a.e 391 (n 5 rfl), a.e 393 ((n 7 rfl).1 hpk)]; done) | (have hpk' := of_decide_eq_false hpk; simp only [Int.ofNat_lt] at hpk'; simp [go_sem, hpk', hpk, a.e 391 (n 5 rfl), a.e 393 ((n 7 rfl).1 hpk)])) (fun hpk => by first | (simp [go_sem, hpk, a.e 391 (n 5 rfl)]; done) | (have hpk' := hpk; simp at hpk'; simp [go_sem, hpk', hpk, a.e 391 (n 5 rfl)]; done) | (have hpk' := of_decide_eq_false hpk; simp only [Int.ofNat_lt] at hpk'; simp [go_sem, hpk', hpk, a.e 391 (n 5 rfl)])),
  fun f s W l n o p q a => opz,
  fun f s W l n o p q a => opm (a.v 394 (n 8 rfl)), trivial⟩ ?_
  intro f8 s8 W8 hB8 g8 hg8 z8
  have q45' := (LnL.below q44' hB8.below)
  refine wp_seq_k fun K15 hK15 => ?_
  refine rw_ 1 [(39, 0)] [[]] (rel [iI 0])
   ⟨fun f s W l n o p q a => opz, trivial⟩ ?_
  intro f9 s9 W9 hB9 g9 hg9 z9
  have fB9 := hB9.f (hB8.f (hB7.f (hB6.f fB5)))
  have b9_0 := hB9.b (hB8.b (hB7.b b6_0))
  have b9_1 := hB9.b (hB8.b (hB7.b (hB6.b (hB5.b (hB4.b (hB3.b b_38_1))))))
  have q46' := (LnL.below q45' hB9.below)
  have k9_16 := kt hg9 16 (kt hg8 16 (kt hg7 16 (kt hg6 16 (kt hg5 16 (kt hg4 16 (kt hg3 16 k_38_16))))))
  have k9_17 := kt hg9 17 (kt hg8 17 k7_17)
  have k9_21 := kt hg9 21 (kt hg8 21 (kt hg7 21 k6_21))
  have k9_30 := kt hg9 30 (kt hg8 30 (kt hg7 30 (kt hg6 30 k5_30)))
  have k9_32 := kt hg9 32 (kt hg8 32 (kt hg7 32 k6_32))
  have k9_35 := kt hg9 35 (kt hg8 35 (kt hg7 35 k6_35))
  have k9_33 := kt hg9 33 (kt hg8 33 (kt hg7 33 (kt hg6 33 (kt hg5 33 (hB5.is 3)))))
  have k9_34 := kt hg9 34 (kt hg8 34 k7_34)
  have k9_37 := kt hg9 37 (kt hg8 37 (hB8.is 9))
  have k9_38 := kt hg9 38 (kt hg8 38 (hB8.is 10))
  have k9_39 := kt hg9 39 (hB9.is 0)
  refine wp_block ?_
  refine wp_loop_n (fun m_ a_ W_ => ∃ g_ : Nat → Value, a_ = fr 426 g_ ∧ (∃ j : Nat, m_ = m - j ∧ g_ 16 = .slice qa m cq ∧ g_ 17 = .int .i64 ((bgF lg m)) ∧ g_ 21 = .pointer (some ⟨b21, 0, none⟩) ∧ g_ 30 = .slice rr nq cr ∧ g_ 32 = .slice (some ⟨bl_, 0, none⟩) nq c35' ∧ g_ 35 = .int .i64 ((k : Int)) ∧ g_ 33 = .int .i64 ((leF tl t ln k) - (min (leF tl t ln k) ((ln k) - tl))) ∧ g_ 34 = .int .i64 ((atR tl ln (k + 1))) ∧ g_ 39 = .int .i64 ((j : Int)) ∧ g_ 37 = .int .i64 ((bgF lg j)) ∧ g_ 38 = .bool ((fiB lg m (atR tl ln (k + 1)) j)) ∧ Below w.heap.size w W_ ∧ W9.heap.size ≤ W_.heap.size ∧ W_.heap[b21]? = some (.cells #[.int .i64 4, .int .i64 3, .int .i64 tl, .slice r21 n21 c21] 80 (0, 0)) ∧ W_.heap[b24]? = some (.cells #[.int .i64 4, .int .i64 3, .int .i64 tl, .slice ra nq c24] 80 (0, 0)) ∧ LnL W_ (some ⟨bl_, 0, none⟩) nq ln ∧ (j ≤ m))) ⟨_, g9, rfl, 0, rfl, k9_16, k9_17, k9_21, k9_30, k9_32, k9_35, k9_33, k9_34, k9_39.trans (by rfl), k9_37.trans (by rfl), k9_38.trans (by rfl), fB9, Nat.le_refl _, b9_0, b9_1, q46', (by omega)⟩ ?_
  rintro _ _ W_47 ⟨g_47, rfl, j, rfl, k_47_16, k_47_17, k_47_21, k_47_30, k_47_32, k_47_35, k_47_33, k_47_34, k_47_39, k_47_37, k_47_38, fB_47, z_47, b_47_0, b_47_1, q48', lj0⟩
  refine wp_seq_k fun K17 hK17 => ?_
  refine rw_ 4 [(395, 0), (396, 1), (397, 2), (398, 3)] [[], [], [1], [0, 2]] (rel [iI ((j : Int)), is (.slice qa m cq), iI ((m : Int)), iB (decide ((j : Int) < (m : Int)))])
   ⟨fun f s W l n o p q a => opm (a.v 39 k_47_39),
  fun f s W l n o p q a => opm (a.v 16 k_47_16),
  fun f s W l n o p q a => opv rfl rfl (by simp [go_sem, a.e 396 (n 1 rfl)]) rfl,
  fun f s W l n o p q a => opv rfl rfl (by simp [go_sem, a.e 395 (n 0 rfl), a.e 397 (n 2 rfl)]) rfl, trivial⟩ ?_
  intro f10 s10 W10 hB10 g10 hg10 z10
  have fB10 := hB10.f fB_47
  have b10_0 := hB10.b b_47_0
  have b10_1 := hB10.b b_47_1
  have q49' := (LnL.below q48' hB10.below)
  have k10_16 := kt hg10 16 k_47_16
  have k10_17 := kt hg10 17 k_47_17
  have k10_21 := kt hg10 21 k_47_21
  have k10_30 := kt hg10 30 k_47_30
  have k10_32 := kt hg10 32 k_47_32
  have k10_35 := kt hg10 35 k_47_35
  have k10_33 := kt hg10 33 k_47_33
  have k10_34 := kt hg10 34 k_47_34
  have k10_39 := kt hg10 39 k_47_39
  have k10_37 := kt hg10 37 k_47_37
  have k10_38 := kt hg10 38 k_47_38
  have k10_398 := kt hg10 398 (hB10.is 3)
  refine wp_cond_split (t := decide ((j : Int) < (m : Int))) ((fr_eval rfl).trans k10_398) (fun hc19 => ?_) (fun hc19 => ?_)
  ·
   have hc19' := hc19; try simp only [ba] at hc19'
   have hjm : j < m := by omega
   have hbj_ := bgF_bd hq j (by omega)
   have hbj1_ := bgF_bd hq (j + 1) (by omega)
   have hqj_ : 1 ≤ lg j ∧ lg j ≤ 100000 := hq j hjm
   refine wp_skip ?_
   refine hK17 _ _ ?_
   refine wp_seq_k fun K20 hK20 => ?_
   refine wp_block ?_
   refine rw_ 8 [(401, 0), (402, 1), (403, 2), (404, 3), (405, 4), (406, 5), (407, 6), (37, 7)] [[], [], [], [1, 2], [3], [4], [0, 5], [0, 6]] (rel [iI ((bgF lg j)), is (.slice qa m cq), iI ((j : Int)), is (.pointer (some ⟨bq_, oq_ + j * 2, none⟩)), is (.pointer (some ⟨bq_, oq_ + j * 2, none⟩)), iI ((lg j)), iI ((bgF lg (j + 1))), iI ((bgF lg (j + 1)))])
    ⟨fun f s W l n o p q a => opm (a.v 37 ((p 7 37 rfl rfl).trans k10_37)),
  fun f s W l n o p q a => opm (a.v 16 k10_16),
  fun f s W l n o p q a => opm (a.v 39 k10_39),
  fun f s W l n o p q a => by have hab := (hqq_ (by omega)).1; have li_ := Nat.not_le.2 hjm; have li2_ : (j : Int) < (m : Int) := (by omega); exact opv rfl rfl (by simp [go_sem, a.e 402 (n 1 rfl), a.e 403 (n 2 rfl), hab, li_, li2_]) rfl,
  fun f s W l n o p q a => opv rfl rfl (by simp [go_sem, a.e 404 (n 3 rfl)]) rfl,
  fun f s W l n o p q a => by have r := bwt fB10 l; have cu_ := ((((hqq_ (by omega)).2).below r).2 j hjm).1; exact opv rfl rfl (by simp [go_sem, a.e 405 (n 4 rfl), cu_]) rfl,
  fun f s W l n o p q a => by have rn_ : (bgF lg j) + (lg j) = (bgF lg (j + 1)) := rfl; have rm_ := IntWalk.i64_in (bgF lg (j + 1)) (by omega); exact opv rfl rfl (by simp [go_sem, a.e 401 (n 0 rfl), a.e 406 (n 5 rfl), IntWalk.i64_in ((bgF lg j) + (lg j)) (by omega), rn_, rm_]) rfl,
  fun f s W l n o p q a => opm (a.v 407 (n 6 rfl)), trivial⟩ ?_
   intro f11 s11 W11 hB11 g11 hg11 z11
   have fB11 := hB11.f fB10
   have b11_0 := hB11.b b10_0
   have b11_1 := hB11.b b10_1
   have q50' := (LnL.below q49' hB11.below)
   have k11_16 := kt hg11 16 k10_16
   have k11_17 := kt hg11 17 k10_17
   have k11_21 := kt hg11 21 k10_21
   have k11_30 := kt hg11 30 k10_30
   have k11_32 := kt hg11 32 k10_32
   have k11_35 := kt hg11 35 k10_35
   have k11_33 := kt hg11 33 k10_33
   have k11_34 := kt hg11 34 k10_34
   have k11_39 := kt hg11 39 k10_39
   have k11_38 := kt hg11 38 k10_38
   have k11_37 := kt hg11 37 (hB11.is 7)
   refine ry 9 [(408, 0), (409, 1), (410, 2), (411, 3), (412, 4), (413, 5), (414, 6), (415, 7), (38, 8)] [[], [0], [1], [1, 2], [1], [1, 4], [1, 3, 5], [1, 6], [0, 7]] (rel [iB ((fiB lg m (atR tl ln (k + 1)) j)), iB ((fiB lg m (atR tl ln (k + 1)) j)), gd ((fiB lg m (atR tl ln (k + 1)) j)) false (iI ((atR tl ln (k + 1)))), gd ((fiB lg m (atR tl ln (k + 1)) j)) false (iI ((atR tl ln (k + 1)) * 3)), gd ((fiB lg m (atR tl ln (k + 1)) j)) false (iI ((bgF lg (j + 1)))), gd ((fiB lg m (atR tl ln (k + 1)) j)) false (iI ((bgF lg (j + 1)) * 4)), gd ((fiB lg m (atR tl ln (k + 1)) j)) false (iB (((atR tl ln (k + 1)) * 3) == ((bgF lg (j + 1)) * 4))), iB (((fiB lg m (atR tl ln (k + 1)) j)) || (((atR tl ln (k + 1)) * 3) == ((bgF lg (j + 1)) * 4))), iB (((fiB lg m (atR tl ln (k + 1)) j)) || (((atR tl ln (k + 1)) * 3) == ((bgF lg (j + 1)) * 4)))])
    ⟨fun f s W l n o p q a => opm (a.v 38 ((p 8 38 rfl rfl).trans k11_38)),
  fun f s W l n o p q a => opm (a.v 408 (n 0 rfl)),
  fun f s W l n o p q a => gdo rfl rfl (a.says (d := 409) rfl rfl (n 1 rfl)) fun hgd0 => gv (by simp [go_sem, a.e 34 k11_34]) rfl,
  fun f s W l n o p q a => gdo rfl rfl (a.says (d := 409) rfl rfl (n 1 rfl)) fun hgd0 => gv (by simp [go_sem, a.e 410 ((n 2 rfl).1 hgd0), IntWalk.i64_in ((atR tl ln (k + 1)) * 3) (by omega)]) rfl,
  fun f s W l n o p q a => gdo rfl rfl (a.says (d := 409) rfl rfl (n 1 rfl)) fun hgd0 => gv (by simp [go_sem, a.e 37 k11_37]) rfl,
  fun f s W l n o p q a => gdo rfl rfl (a.says (d := 409) rfl rfl (n 1 rfl)) fun hgd0 => gv (by simp [go_sem, a.e 412 ((n 4 rfl).1 hgd0), IntWalk.i64_in ((bgF lg (j + 1)) * 4) (by omega)]) rfl,
  fun f s W l n o p q a => gdo rfl rfl (a.says (d := 409) rfl rfl (n 1 rfl)) fun hgd0 => gv (by simp [go_sem, a.e 411 ((n 3 rfl).1 hgd0), a.e 413 ((n 5 rfl).1 hgd0)]) rfl,
  fun f s W l n o p q a => opk (c := (fiB lg m (atR tl ln (k + 1)) j)) rfl rfl (fun hpk => by simp [go_sem, hpk, a.e 409 (n 1 rfl), a.e 414 ((n 6 rfl).1 hpk)]) (fun hpk => by simp [go_sem, hpk, a.e 409 (n 1 rfl)]),
  fun f s W l n o p q a => opm (a.v 415 (n 7 rfl)), trivial⟩ ?_
   intro f12 s12 W12 hB12 g12 hg12 z12
   have fB12 := hB12.f fB11
   have b12_0 := hB12.b b11_0
   have b12_1 := hB12.b b11_1
   have q51' := (LnL.below q50' hB12.below)
   refine wpe ?_
   have k12_16 := kt hg12 16 k11_16
   have k12_17 := kt hg12 17 k11_17
   have k12_21 := kt hg12 21 k11_21
   have k12_30 := kt hg12 30 k11_30
   have k12_32 := kt hg12 32 k11_32
   have k12_35 := kt hg12 35 k11_35
   have k12_33 := kt hg12 33 k11_33
   have k12_34 := kt hg12 34 k11_34
   have k12_39 := kt hg12 39 k11_39
   have k12_37 := kt hg12 37 k11_37
   have k12_38 := kt hg12 38 (hB12.is 8)
   refine ibn ?_
   refine hK20 _ _ ?_
   refine ry 3 [(399, 0), (400, 1), (39, 2)] [[], [0], [0, 1]] (rel [iI ((j : Int)), iI ((j : Int) + 1), iI ((j : Int) + 1)])
    ⟨fun f s W l n o p q a => opm (a.v 39 ((p 2 39 rfl rfl).trans k12_39)),
  fun f s W l n o p q a => opv rfl rfl (by simp [go_sem, a.e 399 (n 0 rfl), IntWalk.i64_in ((j : Int) + 1) (by omega)]) rfl,
  fun f s W l n o p q a => opm (a.v 400 (n 1 rfl)), trivial⟩ ?_
   intro f13 s13 W13 hB13 g13 hg13 z13
   have fB13 := hB13.f fB12
   have b13_0 := hB13.b b12_0
   have b13_1 := hB13.b b12_1
   have q52' := (LnL.below q51' hB13.below)
   refine wpe ?_
   have k13_16 := kt hg13 16 k12_16
   have k13_17 := kt hg13 17 k12_17
   have k13_21 := kt hg13 21 k12_21
   have k13_30 := kt hg13 30 k12_30
   have k13_32 := kt hg13 32 k12_32
   have k13_35 := kt hg13 35 k12_35
   have k13_33 := kt hg13 33 k12_33
   have k13_34 := kt hg13 34 k12_34
   have k13_37 := kt hg13 37 k12_37
   have k13_38 := kt hg13 38 k12_38
   have k13_39 := kt hg13 39 (hB13.is 2)
   refine then_normal ?_
   exact ⟨_, by omega, g13, rfl, j + 1, rfl, k13_16, k13_17, k13_21, k13_30, k13_32, k13_35, k13_33, k13_34, k13_39.trans (by go_num), k13_37.trans rfl, k13_38.trans rfl, fB13, (by omega), b13_0, b13_1, q52', (by omega)⟩
  ·
   have hc19' := hc19; try simp only [ba] at hc19'
   have hjm : j = m := by omega
   refine wp_exit ?_
   refine then_exit ?_
   refine then_exit ?_
   refine inBlock_at ?_
   refine hK15 _ _ ?_
   refine rw_ 2 [(416, 0), (417, 1)] [[], [0]] (rel [iB ((fiB lg m (atR tl ln (k + 1)) j)), iB (!((fiB lg m (atR tl ln (k + 1)) j)))])
    ⟨fun f s W l n o p q a => opm (a.v 38 k10_38),
  fun f s W l n o p q a => opv rfl rfl (by simp [go_sem, a.e 416 (n 0 rfl)]) rfl, trivial⟩ ?_
   intro f14 s14 W14 hB14 g14 hg14 z14
   have fB14 := hB14.f fB10
   have b14_0 := hB14.b b10_0
   have b14_1 := hB14.b b10_1
   have q53' := (LnL.below q49' hB14.below)
   have k14_16 := kt hg14 16 k10_16
   have k14_17 := kt hg14 17 k10_17
   have k14_21 := kt hg14 21 k10_21
   have k14_30 := kt hg14 30 k10_30
   have k14_32 := kt hg14 32 k10_32
   have k14_35 := kt hg14 35 k10_35
   have k14_33 := kt hg14 33 k10_33
   have k14_34 := kt hg14 34 k10_34
   have k14_417 := kt hg14 417 (hB14.is 1)
   refine wp_cond_split (t := !((fiB lg m (atR tl ln (k + 1)) j))) ((fr_eval rfl).trans k14_417) (fun hc23 => ?_) (fun hc23 => ?_)
   ·
    have hc23' := hc23; try simp only [ba] at hc23'
    have hfi_ := fi_law hfl hu_ hln_ hkn
    rw [hjm, hfi_] at hc23
    exact absurd hc23 (by decide) -- done
   ·
    have hc23' := hc23; try simp only [ba] at hc23'
    refine wp_skip ?_
    refine ibn ?_
    refine hK7 _ _ ?_
    refine ry 3 [(351, 0), (352, 1), (35, 2)] [[], [0], [0, 1]] (rel [iI ((k : Int)), iI ((k : Int) + 1), iI ((k : Int) + 1)])
     ⟨fun f s W l n o p q a => opm (a.v 35 ((p 2 35 rfl rfl).trans k14_35)),
  fun f s W l n o p q a => opv rfl rfl (by simp [go_sem, a.e 351 (n 0 rfl), IntWalk.i64_in ((k : Int) + 1) (by omega)]) rfl,
  fun f s W l n o p q a => opm (a.v 352 (n 1 rfl)), trivial⟩ ?_
    intro f15 s15 W15 hB15 g15 hg15 z15
    have fB15 := hB15.f fB14
    have b15_0 := hB15.b b14_0
    have b15_1 := hB15.b b14_1
    have q54' := (LnL.below q53' hB15.below)
    refine wpe ?_
    have k15_16 := kt hg15 16 k14_16
    have k15_17 := kt hg15 17 k14_17
    have k15_21 := kt hg15 21 k14_21
    have k15_30 := kt hg15 30 k14_30
    have k15_32 := kt hg15 32 k14_32
    have k15_33 := kt hg15 33 k14_33
    have k15_34 := kt hg15 34 k14_34
    have k15_35 := kt hg15 35 (hB15.is 2)
    refine then_normal ?_
    exact ⟨_, by omega, g15, rfl, k + 1, rfl, k15_16, k15_17, k15_21, k15_30, k15_32, k15_35.trans (by go_num), k15_33.trans rfl, k15_34.trans rfl, fB15, (by omega), b15_0, b15_1, q54', (by omega)⟩
 ·
  have hc6' := hc6; try simp only [ba] at hc6'
  have hkn : k = nq := by omega
  have hlz_ : ((leF tl t ln k) == 0) = true := by rw [hkn, ← htt_, left_law hfl hu_ hrun_.1 hln_]; rfl
  refine wp_exit ?_
  refine then_exit ?_
  refine then_exit ?_
  refine inBlock_at ?_
  refine hK2 _ _ ?_
  refine rw_ 9 [(418, 0), (419, 1), (420, 2), (421, 3), (422, 4), (423, 5), (424, 6), (425, 7), (6, 8)] [[], [0], [1], [2], [2, 3], [4], [5], [5, 6], [7]] (rel [iI ((leF tl t ln k)), iB true, iB true, iB true, iB true, iB true, iB true, iB true, iB true])
   ⟨fun f s W l n o p q a => opm (a.v 33 k3_33),
  fun f s W l n o p q a => opv rfl rfl (by simp [go_sem, a.e 418 (n 0 rfl), hlz_]) rfl,
  fun f s W l n o p q a => opm (a.v 419 (n 1 rfl)),
  fun f s W l n o p q a => osure rfl rfl (a.says (d := 420) rfl rfl (n 2 rfl)) (gc (by simp [go_sem]) (armTrim_yes W)),
  fun f s W l n o p q a => opk (c := true) rfl rfl (fun h => absurd h (by decide)) (fun _ => by simp [go_sem, a.e 420 (n 2 rfl), a.e 421 (n 3 rfl)]),
  fun f s W l n o p q a => opm (a.v 422 (n 4 rfl)),
  fun f s W l n o p q a => osure rfl rfl (a.says (d := 423) rfl rfl (n 5 rfl)) (gc (by simp [go_sem]) (armRoll_yes W)),
  fun f s W l n o p q a => opk (c := true) rfl rfl (fun h => absurd h (by decide)) (fun _ => by simp [go_sem, a.e 423 (n 5 rfl), a.e 424 (n 6 rfl)]),
  fun f s W l n o p q a => opm (a.v 425 (n 7 rfl)), trivial⟩ ?_
  intro f16 s16 W16 hB16 g16 hg16 z16
  have fB16 := hB16.f fB3
  have q55' := (LnL.below q40' hB16.below)
  have k16_6 := kt hg16 6 (hB16.is 8)
  refine wp_ret ?_
  refine leave_one (N := 426) (.inr rfl) Try.results4 rfl k16_6 ?_
  exact ⟨rfl, bwt hbase_ fB16⟩
end Go.Proofs.Ytcgccflcjejlhaa
