/- Part of the proof: what the claim leans on. -/
import Derived.Test.YtcgccflcjejlhaaVBJ
import Derived.Test.YtcgccflcjejlhaaVBD
import Derived.Test.YtcgccflcjejlhaaVBQ
import Derived.Test.YtcgccflcjejlhaaVBH
import Derived.Test.YtcgccflcjejlhaaVBG
import Derived.Test.YtcgccflcjejlhaaVBI
import Derived.Test.YtcgccflcjejlhaaVAD
import Derived.Test.YtcgccflcjejlhaaVAR
import Derived.Test.YtcgccflcjejlhaaVAM
import Derived.Test.YtcgccflcjejlhaaVBC
set_option maxHeartbeats 8000000
set_option maxRecDepth 100000
set_option linter.unusedSimpArgs false
set_option linter.unusedVariables false
namespace Go.Proofs.Ytcgccflcjejlhaa
open Go.RowKit
theorem plan_none (p : Tp) (os : Nat → To) (bo oo co : Nat) (w : World) (hO : OrdR w bo oo 3 os) (hp : TpIn p) (ho : ∀ i, i < 3 → ToIn (os i)) (hq : planF (seN p os (patL p os 3 3 [])) 4 0 = none) :
  Calls Try.prog 31 #[.agg #[.int .i64 p.wide, .int .i64 p.tlo, .int .i64 p.thi, .int .i64 p.webs, .slice (some ⟨bo, oo, none⟩) 3 co]] w (fun e w' => e = .returned (.tuple #[.slice none 0 0, .int .i64 0, .bool false]) ∧ Below w.heap.size w w') := by
 refine calls_fr Try.func31 Try.ntmps31 rfl rfl fun g hg => ?_
 have k0 : g 0 = .agg #[.int .i64 p.wide, .int .i64 p.tlo, .int .i64 p.thi, .int .i64 p.webs, .slice (some ⟨bo, oo, none⟩) 3 co] := hg 0
 clear hg
 have fB0 : Below w.heap.size w w := Below.refl _ _
 refine rw_ 4 [(1, 0), (2, 1), (3, 2), (4, 3)] [[], [], [], []] (rel [bx 0 #[.int .i64 p.wide, .int .i64 p.tlo, .int .i64 p.thi, .int .i64 p.webs, .slice (some ⟨bo, oo, none⟩) 3 co] 110, is (.slice none 0 0), iI 0, iB false])
  ⟨fun f s W c j l m n a => opb rfl rfl (by simp [go_sem, a.e 0 k0]),
  fun f s W c j l m n a => opv rfl rfl (by simp [go_sem]) rfl,
  fun f s W c j l m n a => opz,
  fun f s W c j l m n a => opz, trivial⟩ ?_
 intro f1 s1 W1 hB1 g1 hg1 z1
 obtain ⟨r1_0, br1_0⟩ := hB1.is 0
 have lr1_0 := hB1.lr 0 br1_0
 refine wp_seq_k fun K2 hK2 => ?_
 refine rw_ 1 [(7, 0)] [[]] (rel [iI 0])
  ⟨fun f s W c j l m n a => opz, trivial⟩ ?_
 intro f2 s2 W2 hB2 g2 hg2 z2
 have fB2 := hB2.f (hB1.f fB0)
 have b2_0 := hB2.b br1_0
 have k2_1 := kt hg2 1 (kt hg1 1 r1_0)
 have k2_2 := kt hg2 2 (kt hg1 2 (hB1.is 1))
 have k2_3 := kt hg2 3 (kt hg1 3 (hB1.is 2))
 have k2_4 := kt hg2 4 (kt hg1 4 (hB1.is 3))
 have k2_7 := kt hg2 7 (hB2.is 0)
 refine wp_block ?_
 refine wp_loop_n (fun m_ a_ W_ => ∃ g_ : Nat → Value, a_ = fr 35 g_ ∧ (∃ k : Nat, m_ = 4 - k ∧ g_ 1 = .pointer (some ⟨(s1 0), 0, none⟩) ∧ g_ 2 = .slice none 0 0 ∧ g_ 3 = .int .i64 0 ∧ g_ 4 = .bool false ∧ g_ 7 = .int .i64 ((k : Int)) ∧ Below w.heap.size w W_ ∧ W2.heap.size ≤ W_.heap.size ∧ W_.heap[(s1 0)]? = some (.cells #[.int .i64 p.wide, .int .i64 p.tlo, .int .i64 p.thi, .int .i64 p.webs, .slice (some ⟨bo, oo, none⟩) 3 co] 110 (0, 0)) ∧ (k ≤ 4) ∧ (planF (seN p os (patL p os 3 3 [])) (4 - k) k = none))) ⟨_, g2, rfl, 0, rfl, k2_1, k2_2, k2_3, k2_4, k2_7.trans (by rfl), fB2, Nat.le_refl _, b2_0, (by omega), hq⟩ ?_
 rintro _ _ W_1 ⟨g_1, rfl, k, rfl, k_1_1, k_1_2, k_1_3, k_1_4, k_1_7, fB_1, z_1, b_1_0, lk0, lk1⟩
 refine rw_ 1 [(8, 0)] [[]] (rel [iB (decide ((k : Int) < 4))])
  ⟨fun f s W c j l m n a => opv rfl rfl (by simp [go_sem, a.e 7 k_1_7]) rfl, trivial⟩ ?_
 intro f3 s3 W3 hB3 g3 hg3 z3
 have fB3 := hB3.f fB_1
 have k3_7 := kt hg3 7 k_1_7
 have k3_8 := kt hg3 8 (hB3.is 0)
 refine wp_seq_k fun K5 hK5 => ?_
 refine wp_cond_split (t := decide ((k : Int) < 4)) ((fr_eval rfl).trans k3_8) (fun hc6 => ?_) (fun hc6 => ?_)
 ·
  have hc6' := hc6; try simp only [ba] at hc6'
  have hk4_ : k < 4 := by omega
  refine wp_skip ?_
  refine hK5 _ _ ?_
  refine wp_seq_k fun K7 hK7 => ?_
  refine wp_block ?_
  refine rw_ 2 [(9, 0), (5, 1)] [[], [0]] (rel [iI ((k : Int)), iI ((k : Int))])
   ⟨fun f s W c j l m n a => opm (a.v 7 k3_7),
  fun f s W c j l m n a => opm (a.v 9 (j 0 rfl)), trivial⟩ ?_
  intro f4 s4 W4 hB4 g4 hg4 z4
  have fB4 := hB4.f fB3
  have b4_0 := hB4.b (hB3.b b_1_0)
  have k4_1 := kt hg4 1 (kt hg3 1 k_1_1)
  refine rx 6 [(10, 0), (11, 1), (12, 2), (13, 3), (14, 4), (6, 5)] [[], [], [1], [0, 2], [3], [4]] (rel [is (.agg #[.int .i64 p.wide, .int .i64 p.tlo, .int .i64 p.thi, .int .i64 p.webs, .slice (some ⟨bo, oo, none⟩) 3 co]), is (.agg #[.int .i64 p.wide, .int .i64 p.tlo, .int .i64 p.thi, .int .i64 p.webs, .slice (some ⟨bo, oo, none⟩) 3 co]), ab fun v W => IsLL (patL p os 3 3 []) v W, ab fun v W => AgX p os bo oo co v W, ab fun v W => BxX w p os bo oo co v W, ab fun v W => BxX w p os bo oo co v W])
   ⟨is_k, is_k, ab_k fun v W W' hb h => (h.below hb), ab_k fun v W W' hb h => h.below hb, ab_k fun v W W' hb h => h.below hb, ab_k fun v W W' hb h => h.below hb, trivial⟩
   ⟨fun f s W c j l m n a => opl rfl rfl rfl (a.v 1 k4_1) (bwb b4_0 c) Try.underlying110 rfl (by kernel_rfl) rfl,
  fun f s W c j l m n a => opl rfl rfl rfl (a.v 1 k4_1) (bwb b4_0 c) Try.underlying110 rfl (by kernel_rfl) rfl,
  fun f s W c j l m n a => by have r := bwt fB4 c; exact opd rfl rfl (by simp [go_sem, a.e 11 (j 1 rfl)]) (all_pats p os bo oo 3 co W (hO.below r) hp ho (by decide)) ((fun e W' h => by obtain ⟨v, e1, h1, h2⟩ := h; exact ⟨_, e1, h2, h1⟩)),
  fun f s W c j l m n a => by obtain ⟨a2', c3', b4', o5', ad6', cp7', d2, q10', q9', q8'⟩ := (j 2 rfl); exact opv (v := (.agg #[.int .i64 p.wide, .int .i64 p.tlo, .int .i64 p.thi, .int .i64 p.webs, .slice (some ⟨bo, oo, none⟩) 3 co, .slice (a2') ((patL p os 3 3 []).length) (c3'), .slice none 0 0, .int .i64 0, .bool false])) rfl rfl (by simp [go_sem, a.e 10 (j 0 rfl), a.e 12 d2]) ⟨_, _, _, _, _, _, rfl, q9', q8'⟩,
  fun f s W c j l m n a => by obtain ⟨a11', c12', b13', o14', ad15', cp16', d3, q18', q17'⟩ := (j 3 rfl); have r := bwt fB4 c; have r := bwt fB4 c; exact opDo_value (v := .pointer (some ⟨W.heap.size, 0, none⟩)) rfl rfl (by simp [go_sem, a.e 13 d3]) (balloc1 _ _) ⟨W, _, a11', c12', _, _, _, _, rfl, blk_new rfl, r, balloc1 _ _, Nat.le_refl _, q17', q18'⟩,
  fun f s W c j l m n a => opv (v := (f 4)) rfl rfl (by simp [go_sem, (a.at' 14 rfl : n.tmps[14]?.getD undef = f 4)] <;> rfl) (j 4 rfl), trivial⟩ ?_
  intro f5 s5 W5 hB5 g5 hg5 z5
  have b5_0 := hB5.b b4_0
  obtain ⟨V_, bs, al, cl, bl, ol, ad, cp, r5_5, q21', hwV_, q22', hbs_, hLL_, hal_⟩ := hB5.is 5
  have k5_1 := kt hg5 1 k4_1
  have k5_5 := kt hg5 5 (kt hg4 5 (hB4.is 1))
  have k5_6 := kt hg5 6 r5_5
  have lt_bs0 := ltb q21'
  refine wp_seq_k fun K10 hK10 => ?_
  refine ry 6 [(15, 0), (16, 1), (17, 2), (18, 3), (19, 4), (20, 5), (21, 6)] [[], [], [], [2], [2, 3], [2, 3, 4], [0, 1, 2, 3, 4, 5]] (rel [is (.pointer (some ⟨bs, 0, none⟩)), iI ((k : Int)), is (.pointer (some ⟨(s1 0), 4, none⟩)), is (.slice (some ⟨bo, oo, none⟩) 3 co), iI 3, row 5 3 #[.int .i64 0, .int .i64 0, .int .i64 0] 3])
   ⟨fun f s W c j l m n a => opm (a.v 6 k5_6),
  fun f s W c j l m n a => opm (a.v 5 k5_5),
  fun f s W c j l m n a => opv rfl rfl (by simp [go_sem, a.e 1 k5_1]) rfl,
  fun f s W c j l m n a => opv rfl rfl (by simp [go_sem, a.e 17 (j 2 rfl), cb b5_0 c 4]) rfl,
  fun f s W c j l m n a => opv rfl rfl (by simp [go_sem, a.e 18 (j 3 rfl)]) rfl,
  fun f s W c j l m n a => opr rfl rfl (by simp [go_sem, a.e 19 (j 4 rfl)]; kernel_rfl), trivial⟩ ?_
  intro f6 s6 W6 hB6 g6 hg6 z6
  have fB6 := hB6.f (hB5.f fB4)
  have b6_0 := hB6.b b5_0
  have q23' := (hB6.b q21')
  have q24' := (hB6.f q22')
  obtain ⟨r6_5, br6_5⟩ := hB6.is 5
  have lr6_5 := hB6.lr 5 br6_5
  have k6_15 := kt hg6 15 (hB6.is 0)
  have k6_16 := kt hg6 16 (hB6.is 1)
  have k6_20 := kt hg6 20 r6_5
  have lt_bs := ltb q23'
  have hne_ : (s6 5) ≠ bs := by omega
  refine tail_call (o := _) (d := 21) rfl rfl rfl (by simp [go_sem, frv 35 k6_15, frv 35 k6_16, frv 35 k6_20]) (try_it p os bo oo 3 co al cl bl ol (patL p os 3 3 []) ad cp bs (hO.below hwV_) hp ho (by decide) (by decide) (patL_ok hp ho) hLL_ hal_ hbs_ k [] 0 0 [0, 0, 0] ⟨[], 0, false⟩ none 0 0 (some ⟨(s6 5), 0, none⟩) 3 3 W6 (tryOk_start (no := 3) (by omega)) q24' ⟨none, 0, q23', Nat.le_refl _, rfl, .inl ⟨rfl, rfl⟩⟩ ⟨rfl, .inl ⟨rfl, rfl⟩⟩ rfl (Nat.le_refl _) (fun _ => ⟨rfl, rfl⟩) (ii_block (xs := [0, 0, 0]) br6_5 rfl rfl) (fun b o e => by cases e; exact hne_)) ?_ (fun _ h => nomatch h.1) (fun _ _ h => nomatch h.1)
  rintro v_ W7 ⟨rv7, kx7, bx7⟩
  obtain rfl := Ending.returned.inj rv7
  have z7 := kx7.size
  have fB7 := Below.trans fB6 (kx7.below (by have := hwV_.size; omega) (fB6).size)
  have bV7 := Below.trans q24' (kx7.below hbs_ (q24').size)
  have hm7 := kx7.block _ _ (fun e => by have h1 := b6_0; rw [e, q23'] at h1; simp at h1) b6_0
  obtain ⟨sq, hsq⟩ : ∃ q, seN p os (patL p os 3 3 []) k = q := ⟨_, rfl⟩
  have bx7' : BoxS p bo oo 3 co al cl (patL p os 3 3 []) ad cp bs sq W7 := hsq ▸ bx7
  obtain ⟨aq, cq, hbq, hcq, hrq⟩ := bx7'
  have hokq := tryF_ok p os 3 (patL p os 3 3 []) k [] 0 0 [0, 0, 0] ⟨[], 0, false⟩ (fun x h => nomatch h) (Nat.zero_le _) (by simp; omega) ⟨fun x h => (nomatch h), Nat.zero_le _⟩
  have hokq_ : PlOk (patL p os 3 3 []) sq.best ∧ sq.best.length ≤ 3 := hsq ▸ hokq
  generalize hg7 : upd g6 21 (.tuple #[]) = g7
  have k7_6 := ku hg7 6 (kt hg6 6 k5_6)
  refine wpe ?_
  refine hK10 _ _ ?_
  refine rw_ 4 [(22, 0), (23, 1), (24, 2), (25, 3)] [[], [0], [1], [2]] (rel [is (.pointer (some ⟨bs, 0, none⟩)), is (.pointer (some ⟨bs, 0, none⟩)), is (.pointer (some ⟨bs, 8, none⟩)), iB sq.found])
   ⟨fun f s W c j l m n a => opm (a.v 6 k7_6),
  fun f s W c j l m n a => opv rfl rfl (by simp [go_sem, a.e 22 (j 0 rfl)]) rfl,
  fun f s W c j l m n a => opv rfl rfl (by simp [go_sem, a.e 23 (j 1 rfl)]) rfl,
  fun f s W c j l m n a => opv rfl rfl (by simp [go_sem, a.e 24 (j 2 rfl), cb hbq c 8]) rfl, trivial⟩ ?_
  intro f8 s8 W8 hB8 g8 hg8 z8
  have q25' := (hB8.f bV7)
  have q26' := (hrq.below hB8.below)
  have k8_7 := kt hg8 7 (ku hg7 7 (kt hg6 7 (kt hg5 7 (kt hg4 7 k3_7))))
  have k8_25 := kt hg8 25 (hB8.is 3)
  refine wp_cond_split (t := sq.found) ((fr_eval rfl).trans k8_25) (fun hc12 => ?_) (fun hc12 => ?_)
  ·
   have hc12' := hc12; try simp only [ba] at hc12'
   have hfd_ : sq.found = true := hc12
   have e_ : 4 - k = (4 - (k + 1)) + 1 := by omega
   rw [e_, planF, hsq, if_pos hfd_] at lk1
   cases lk1
   -- done
  ·
   have hc12' := hc12; try simp only [ba] at hc12'
   have hfd_ : sq.found = false := hc12
   refine wp_skip ?_
   refine ibn ?_
   refine hK7 _ _ ?_
   refine ry 2 [(34, 0), (7, 1)] [[], [0]] (rel [iI ((k : Int) + 1), iI ((k : Int) + 1)])
    ⟨fun f s W c j l m n a => opv rfl rfl (by simp [go_sem, a.e 7 ((m 1 7 rfl rfl).trans k8_7), IntWalk.i64_in ((k : Int) + 1) (by omega)]) rfl,
  fun f s W c j l m n a => opm (a.v 34 (j 0 rfl)), trivial⟩ ?_
   intro f9 s9 W9 hB9 g9 hg9 z9
   have fB9 := hB9.f (hB8.f fB7)
   have b9_0 := hB9.b (hB8.b hm7)
   have q27' := (hB9.f q25')
   have q28' := (q26'.below hB9.below)
   refine wpe ?_
   have k9_1 := kt hg9 1 (kt hg8 1 (ku hg7 1 (kt hg6 1 k5_1)))
   have k9_2 := kt hg9 2 (kt hg8 2 (ku hg7 2 (kt hg6 2 (kt hg5 2 (kt hg4 2 (kt hg3 2 k_1_2))))))
   have k9_3 := kt hg9 3 (kt hg8 3 (ku hg7 3 (kt hg6 3 (kt hg5 3 (kt hg4 3 (kt hg3 3 k_1_3))))))
   have k9_4 := kt hg9 4 (kt hg8 4 (ku hg7 4 (kt hg6 4 (kt hg5 4 (kt hg4 4 (kt hg3 4 k_1_4))))))
   have k9_7 := kt hg9 7 (hB9.is 1)
   refine then_normal ?_
   have e_ : 4 - k = (4 - (k + 1)) + 1 := by omega
   rw [e_, planF, hsq, if_neg (by rw [hfd_]; exact Bool.false_ne_true)] at lk1
   exact ⟨_, by omega, g9, rfl, k + 1, rfl, k9_1, k9_2, k9_3, k9_4, k9_7.trans (by go_num), fB9, (by omega), b9_0, (by omega), lk1⟩
 ·
  have hc6' := hc6; try simp only [ba] at hc6'
  have hk4_ : k = 4 := by omega
  refine wp_exit ?_
  refine then_exit ?_
  refine then_exit ?_
  refine inBlock_at ?_
  refine hK2 _ _ ?_
  refine rw_ 3 [(2, 0), (3, 1), (4, 2)] [[], [], []] (rel [is (.slice none 0 0), iI 0, iB false])
   ⟨fun f s W c j l m n a => opv rfl rfl (by simp [go_sem]) rfl,
  fun f s W c j l m n a => opz,
  fun f s W c j l m n a => opz, trivial⟩ ?_
  intro f10 s10 W10 hB10 g10 hg10 z10
  have fB10 := hB10.f fB3
  have k10_2 := kt hg10 2 (hB10.is 0)
  have k10_3 := kt hg10 3 (hB10.is 1)
  have k10_4 := kt hg10 4 (hB10.is 2)
  refine wp_ret ?_
  refine leave_gen (v := .tuple #[.slice none 0 0, .int .i64 0, .bool false]) (.inr rfl) (by simp [results, Try.results31, go_sem, frv 35 k10_2, frv 35 k10_3, frv 35 k10_4]) ?_
  exact ⟨rfl, fB10⟩
theorem tr_Plan_none (p : Tp) (os : Nat → To) (bo oo co : Nat) (w : World) (hO : OrdR w bo oo 3 os) (hp : TpIn p) (ho : ∀ i, i < 3 → ToIn (os i)) (hq : planF (seN p os (patL p os 3 3 [])) 4 0 = none) :
  Calls Try.prog 12 #[.agg #[.int .i64 p.wide, .int .i64 p.tlo, .int .i64 p.thi, .int .i64 p.webs], .slice (some ⟨bo, oo, none⟩) 3 co] w (fun e w' => e = .returned (.tuple #[.slice none 0 0, .int .i64 9]) ∧ Below w.heap.size w w') := by
 refine calls_fr Try.func12 Try.ntmps12 rfl rfl fun g hg => ?_
 have k0 : g 0 = .agg #[.int .i64 p.wide, .int .i64 p.tlo, .int .i64 p.thi, .int .i64 p.webs] := hg 0
 have k1 : g 1 = .slice (some ⟨bo, oo, none⟩) 3 co := hg 1
 clear hg
 have fB0 : Below w.heap.size w w := Below.refl _ _
 refine rw_ 3 [(2, 0), (4, 1), (5, 2)] [[], [], []] (rel [bx 0 #[.int .i64 p.wide, .int .i64 p.tlo, .int .i64 p.thi, .int .i64 p.webs] 61, is (.slice none 0 0), iI 0])
  ⟨fun f s W c d h j k a => opb rfl rfl (by simp [go_sem, a.e 0 k0]),
  fun f s W c d h j k a => opv rfl rfl (by simp [go_sem]) rfl,
  fun f s W c d h j k a => opz, trivial⟩ ?_
 intro f1 s1 W1 hB1 g1 hg1 z1
 have fB1 := hB1.f fB0
 obtain ⟨r1_0, br1_0⟩ := hB1.is 0
 have lr1_0 := hB1.lr 0 br1_0
 have k1_1 := kt hg1 1 k1
 have k1_2 := kt hg1 2 r1_0
 refine wp_seq_k fun K2 hK2 => ?_
 refine ry 7 [(12, 0), (13, 1), (14, 2), (11, 3), (15, 4), (16, 5), (6, 6), (7, 8)] [[], [], [0, 1], [2], [3], [3], [], [0, 1, 2, 3, 4, 6], [0, 1, 2, 3, 4, 5, 6, 7]] (rel [is (.agg #[.int .i64 p.wide, .int .i64 p.tlo, .int .i64 p.thi, .int .i64 p.webs]), is (.slice (some ⟨bo, oo, none⟩) 3 co), is (.tuple #[.agg #[.int .i64 p.wide, .int .i64 p.tlo, .int .i64 p.thi, .int .i64 p.webs, .slice (some ⟨bo, oo, none⟩) 3 co], .int .i64 0]), is (.tuple #[.agg #[.int .i64 p.wide, .int .i64 p.tlo, .int .i64 p.thi, .int .i64 p.webs, .slice (some ⟨bo, oo, none⟩) 3 co], .int .i64 0]), is (.agg #[.int .i64 p.wide, .int .i64 p.tlo, .int .i64 p.thi, .int .i64 p.webs, .slice (some ⟨bo, oo, none⟩) 3 co]), iI 0, bx 6 #[.int .i64 0, .int .i64 0, .int .i64 0, .int .i64 0, .slice none 0 0] 110])
  ⟨fun f s W c d h j k a => opl rfl rfl rfl (a.v 2 k1_2) (bwb br1_0 c) Try.underlying61 rfl (by kernel_rfl) rfl,
  fun f s W c d h j k a => opm (a.v 1 k1_1),
  fun f s W c d h j k a => by have l := bwt fB1 c; exact opc rfl rfl (by simp [go_sem, a.e 12 (d 0 rfl), a.e 13 (d 1 rfl)]) (tr_open p os bo oo 3 co W (hO.below l) hp ho (by decide)),
  fun f s W c d h j k a => opm (a.v 14 (d 2 rfl)),
  fun f s W c d h j k a => opv rfl rfl (by simp [go_sem, a.e 11 (d 3 rfl)]) rfl,
  fun f s W c d h j k a => opv rfl rfl (by simp [go_sem, a.e 11 (d 3 rfl)]) rfl,
  fun f s W c d h j k a => opb rfl rfl (by simp [go_sem]), trivial⟩ ?_
 intro f2 s2 W2 hB2 g2 hg2 z2
 have fB2 := hB2.f fB1
 obtain ⟨r2_6, br2_6⟩ := hB2.is 6
 have lr2_6 := hB2.lr 6 br2_6
 have k2_15 := kt hg2 15 (hB2.is 4)
 have k2_16 := kt hg2 16 (hB2.is 5)
 have k2_6 := kt hg2 6 r2_6
 obtain ⟨W3, hW3⟩ : ∃ W', W' = W2.setRow (s2 6) #[.int .i64 p.wide, .int .i64 p.tlo, .int .i64 p.thi, .int .i64 p.webs, .slice (some ⟨bo, oo, none⟩) 3 co] := ⟨_, rfl⟩
 refine tsk (o := _) rfl ⟨rfl, rfl⟩ (run_seg hW3 (fr_ev k2_6) (fr_ev k2_15) br2_6 rfl rfl rfl rfl) ?_
 obtain ⟨fB3, nb3, ot3, z3⟩ := sgf hW3 fB2 br2_6 (by omega)
 clear hW3
 refine tail_value (o := _) rfl rfl rfl (v := .int .i64 0) (by simp [go_sem, frv 30 k2_16]) ?_
 generalize hg4 : upd g2 7 (.int .i64 0) = g4
 have k4_7 := kt hg4 7 (upd_same _ _ _)
 refine wpe ?_
 refine hK2 _ _ ?_
 refine wp_seq_k fun K3 hK3 => ?_
 refine rw_ 2 [(17, 0), (18, 1)] [[], [0]] (rel [iI 0, iB false])
  ⟨fun f s W c d h j k a => opm (a.v 7 k4_7),
  fun f s W c d h j k a => opv rfl rfl (by simp [go_sem, a.e 17 (d 0 rfl)]) rfl, trivial⟩ ?_
 intro f5 s5 W5 hB5 g5 hg5 z5
 have fB5 := hB5.f fB3
 have b5_1 := hB5.b nb3
 have k5_6 := kt hg5 6 (ku hg4 6 k2_6)
 have k5_18 := kt hg5 18 (hB5.is 1)
 refine wp_cond_false ((fr_eval rfl).trans k5_18) ?_
 refine wp_skip ?_
 refine hK3 _ _ ?_
 refine rw_ 9 [(21, 0), (22, 1), (20, 2), (23, 3), (24, 4), (25, 5), (8, 6), (9, 7), (10, 8)] [[], [0], [1], [2], [2], [2], [3], [4], [5]] (rel [is (.agg #[.int .i64 p.wide, .int .i64 p.tlo, .int .i64 p.thi, .int .i64 p.webs, .slice (some ⟨bo, oo, none⟩) 3 co]), is (.tuple #[.slice none 0 0, .int .i64 0, .bool false]), is (.tuple #[.slice none 0 0, .int .i64 0, .bool false]), is (.slice none 0 0), iI 0, iB false, is (.slice none 0 0), iI 0, iB false])
  ⟨fun f s W c d h j k a => opl rfl rfl rfl (a.v 6 k5_6) (bwb b5_1 c) Try.underlying110 rfl (by kernel_rfl) rfl,
  fun f s W c d h j k a => by have l := bwt fB5 c; exact opc rfl rfl (by simp [go_sem, a.e 21 (d 0 rfl)]) (plan_none p os bo oo co W (hO.below l) hp ho hq),
  fun f s W c d h j k a => opm (a.v 22 (d 1 rfl)),
  fun f s W c d h j k a => opv rfl rfl (by simp [go_sem, a.e 20 (d 2 rfl)]) rfl,
  fun f s W c d h j k a => opv rfl rfl (by simp [go_sem, a.e 20 (d 2 rfl)]) rfl,
  fun f s W c d h j k a => opv rfl rfl (by simp [go_sem, a.e 20 (d 2 rfl)]) rfl,
  fun f s W c d h j k a => opm (a.v 23 (d 3 rfl)),
  fun f s W c d h j k a => opm (a.v 24 (d 4 rfl)),
  fun f s W c d h j k a => opm (a.v 25 (d 5 rfl)), trivial⟩ ?_
 intro f6 s6 W6 hB6 g6 hg6 z6
 have k6_10 := kt hg6 10 (hB6.is 8)
 refine wp_seq_k fun K7 hK7 => ?_
 refine rw_ 2 [(26, 0), (27, 1)] [[], [0]] (rel [iB false, iB true])
  ⟨fun f s W c d h j k a => opm (a.v 10 k6_10),
  fun f s W c d h j k a => opv rfl rfl (by simp [go_sem, a.e 26 (d 0 rfl)]) rfl, trivial⟩ ?_
 intro f7 s7 W7 hB7 g7 hg7 z7
 have k7_27 := kt hg7 27 (hB7.is 1)
 refine wp_cond_true ((fr_eval rfl).trans k7_27) ?_
 refine rw_ 2 [(4, 0), (5, 1)] [[], []] (rel [is (.slice none 0 0), iI 9])
  ⟨fun f s W c d h j k a => opv rfl rfl (by simp [go_sem]) rfl,
  fun f s W c d h j k a => opz, trivial⟩ ?_
 intro f8 s8 W8 hB8 g8 hg8 z8
 have fB8 := hB8.f (hB7.f (hB6.f fB5))
 have k8_4 := kt hg8 4 (hB8.is 0)
 have k8_5 := kt hg8 5 (hB8.is 1)
 refine wp_ret ?_
 refine then_ret ?_
 refine leave_gen (v := .tuple #[.slice none 0 0, .int .i64 9]) (.inr rfl) (by simp [results, Try.results12, go_sem, frv 30 k8_4, frv 30 k8_5]) ?_
 exact ⟨rfl, fB8⟩
open Go.RowKit
def rollP (vv : Nat → Int) : Tp := ⟨500 + 4 * vv 0, 0, 40 + 3 * vv 1, 2 + vv 2 % 3⟩
def rollO (vv : Nat → Int) : Nat → To
  | 0 => ⟨150 + 2 * (vv 3), (vv 6) % 4, (vv 6) % 4 + 1 + (vv 7) % 8⟩
  | 1 => ⟨150 + 2 * (vv 4), (vv 6) / 4 % 4, (vv 6) / 4 % 4 + 1 + (vv 7) % 8⟩
  | _ => ⟨150 + 2 * (vv 5), (vv 6) / 16 % 4, (vv 6) / 16 % 4 + 1 + (vv 7) % 8⟩
theorem rollP_in {vv : Nat → Int} (g : ∀ k, 0 ≤ vv k ∧ vv k ≤ 255) : TpIn (rollP vv) := by
  have h0 := g 0
  have h1 := g 1
  have h2 := g 2
  refine ⟨?_, ?_, ?_⟩ <;> simp only [rollP] <;> omega
theorem rollO_in {vv : Nat → Int} (g : ∀ k, 0 ≤ vv k ∧ vv k ≤ 255) : ∀ i, i < 3 → ToIn (rollO vv i) := fun i hi => by
  have h3 := g 3
  have h4 := g 4
  have h5 := g 5
  have h6 := g 6
  have h7 := g 7
  match i, hi with
  | 0, _ => refine ⟨?_, ?_⟩ <;> simp only [rollO] <;> omega
  | 1, _ => refine ⟨?_, ?_⟩ <;> simp only [rollO] <;> omega
  | 2, _ => refine ⟨?_, ?_⟩ <;> simp only [rollO] <;> omega
theorem ownR_ordC {B g c : Nat} {os : Nat → To} {W : World} (h : OwnR 65 3 B 3 (orC os 3) g c W) : OrdR W g 0 3 os :=
  h.ordR (fun i hi => orC_at os 3 i hi)
theorem rowK_k {B : Nat} {T : TypeId → Bool} {G : TypeId → Array Value → World → Prop} {ds : List (List Nat)} {t : TypeId} {cs : Array Value} {i n : Nat} (ht : T t = false) : KeepsL (LeK B T G) ds i (row i n cs t) :=
  ⟨fun _ _ _ _ hb h => ⟨h.1, hb.block _ _ h.2 (.inr fun cs' t' ht' e => by simp only [Obj.cells.injEq] at e; rw [← e.2.1, ht] at ht'; cases ht')⟩, fun v s s' W e h => by have := e i (by simp); unfold row at *; rw [← this]; exact h⟩
open Go.RowKit
open Go.RowKit
open Go.RowKit
structure RunB (os : Nat → To) (xs : Nat → List Int × Int) (al0 al1 al2 m1 m2 r0 r1 nl0 nl1 nl2 nh0 nh1 nh2 : Int) : Prop where
  x0 : xs 0 = ([0, 0, m2], r0)
  x1 : xs 1 = ([1, m1, 0], r1)
  o0 : os 0 = ⟨al0, nl0, nh0⟩
  o1 : os 1 = ⟨al1, nl1, nh1⟩
  o2 : os 2 = ⟨al2, nl2, nh2⟩
  a0 : 1 ≤ al0 ∧ al0 ≤ 900
  a1 : 1 ≤ al1 ∧ al1 ≤ 900
  a2 : 1 ≤ al2 ∧ al2 ≤ 900
  hm1 : 1 ≤ m1 ∧ m1 ≤ 2
  hm2 : 1 ≤ m2 ∧ m2 ≤ 2
  hr0 : 1 ≤ r0 ∧ r0 ≤ 9
  hr1 : 1 ≤ r1 ∧ r1 ≤ 9
  n0 : 0 ≤ nl0 ∧ nl0 ≤ r1 ∧ r1 ≤ nh0 ∧ nh0 ≤ 100
  n1 : 0 ≤ nl1 ∧ nl1 ≤ m1 * r1 ∧ m1 * r1 ≤ nh1 ∧ nh1 ≤ 100
  n2 : 0 ≤ nl2 ∧ nl2 ≤ m2 * r0 ∧ m2 * r0 ≤ nh2 ∧ nh2 ≤ 100
variable {os : Nat → To} {xs : Nat → List Int × Int} {al0 al1 al2 m1 m2 r0 r1 nl0 nl1 nl2 nh0 nh1 nh2 : Int}
open Go.RowKit
theorem elT_left {xs ys : List Int} {i : Nat} (h : i < xs.length) : elT (xs ++ ys) i = elT xs i := by
  unfold elT
  rw [List.getD_eq_getElem?_getD, List.getD_eq_getElem?_getD, List.getElem?_append_left h]
theorem patL_pre {p : Tp} {os : Nat → To} {no : Nat} : ∀ (d : Nat) (xs : List Int), ∀ ys ∈ patL p os no d xs, ∃ t, ys = xs ++ t
  | 0, xs, ys, h => by
    unfold patL at h
    split at h
    · exact ⟨[], by rw [List.mem_singleton.1 h, List.append_nil]⟩
    · cases h
  | d + 1, xs, ys, h => by
    unfold patL at h
    obtain ⟨k, _, h⟩ := List.mem_flatMap.1 h
    obtain ⟨t, e⟩ := patL_pre d _ ys h
    exact ⟨(k : Int) :: t, by rw [e, List.append_assoc]; rfl⟩
theorem patL_lex (p : Tp) (os : Nat → To) (no : Nat) : ∀ (d : Nat) (xs : List Int), (patL p os no d xs).Pairwise (fun a b => LexLt a b (xs.length + d))
  | 0, xs => by
    unfold patL
    split
    · exact List.pairwise_singleton _ _
    · exact List.Pairwise.nil
  | d + 1, xs => by
    unfold patL
    rw [List.pairwise_flatMap]
    refine ⟨fun n _ => ?_, ?_⟩
    · have h := patL_lex p os no d (xs ++ [(n : Int)])
      rw [List.length_append, List.length_singleton, Nat.add_assoc, Nat.add_comm 1 d] at h
      exact h
    · refine List.pairwise_lt_range.imp fun {a b} hab y hy z hz => ?_
      obtain ⟨t, rfl⟩ := patL_pre d _ y hy
      obtain ⟨u, rfl⟩ := patL_pre d _ z hz
      refine ⟨xs.length, by omega, fun i hi => ?_, ?_⟩
      · rw [List.append_assoc, List.append_assoc, elT_left hi, elT_left hi]
      · have e : ∀ (x : Int) (t : List Int), elT (xs ++ [x] ++ t) xs.length = x := fun x t => by
          rw [elT_left (by rw [List.length_append]; exact Nat.lt_succ_self _)]
          unfold elT
          rw [List.getD_eq_getElem?_getD, List.getElem?_concat_length]; rfl
        rw [e, e]; omega
theorem webL_at {L : List (List Int)} {i : Nat} (h : i < L.length) : webL L i = L[i] := by
  unfold webL; rw [List.getD_eq_getElem?_getD, List.getElem?_eq_getElem h]; rfl
theorem webL_lex {p : Tp} {os : Nat → To} {i j : Nat} (hij : i < j) (hj : j < (patL p os 3 3 []).length) : LexLt (webL (patL p os 3 3 []) i) (webL (patL p os 3 3 []) j) 3 := by
  rw [webL_at (by omega), webL_at hj]
  exact List.pairwise_iff_getElem.1 (patL_lex p os 3 3 []) i j (by omega) hj hij
theorem wr_neg {os : Nat → To} {gs : List Int} (h : wrF os gs 3 0 < 0) : wrF os gs 3 0 = -1 := by
  have := wrF_bd os gs 3 0; omega
open Go.RowKit
structure PlG (pl : List (Nat × Int)) (fr : Nat) : Prop where
  i : ∀ x ∈ pl, x.1 < fr ∧ 1 ≤ x.2 ∧ x.2 ≤ 30
  a : pl.Pairwise (fun x y => x.1 < y.1)
def gotP (L : List (List Int)) (pl : List (Nat × Int)) : List Int := gotK (plX L pl) pl.length
theorem gotK_congr {xs ys : Nat → List Int × Int} : ∀ k, (∀ j, j < k → xs j = ys j) → gotK xs k = gotK ys k
  | 0, _ => rfl
  | k + 1, h => by rw [gotK, gotK, gotK_congr k (fun j hj => h j (by omega)), h k (by omega)]
theorem gotP_snoc (L : List (List Int)) (pl : List (Nat × Int)) (i : Nat) (r : Int) : gotP L (pl ++ [(i, r)]) = addK (gotP L pl) (webL L i) r 3 := by
  have e : plX L (pl ++ [(i, r)]) pl.length = (webL L i, r) := by
    unfold plX; rw [List.getD_eq_getElem?_getD, List.getElem?_concat_length]; rfl
  unfold gotP
  rw [show (pl ++ [(i, r)]).length = pl.length + 1 by simp, gotK, e, gotK_congr (ys := plX L pl) pl.length (fun j hj => by unfold plX; rw [List.getD_eq_getElem?_getD, List.getD_eq_getElem?_getD, List.getElem?_append_left hj])]
def BestOk (os : Nat → To) (L : List (List Int)) (n : Nat) (s : Se) : Prop := s.found = true → PlG s.best L.length ∧ s.best.length = n ∧ wrF os (gotP L s.best) 3 0 < 0
theorem tryF_sound {p : Tp} {os : Nat → To} {L : List (List Int)} (ho : ∀ i, i < 3 → ToIn (os i)) (hL : LOk p os 3 L) (n : Nat) : ∀ (m : Nat) (pl : List (Nat × Int)) (fr : Nat) (wa : Int) (gs : List Int) (s : Se), TryOk 3 L m pl fr wa gs → PlG pl fr → m + pl.length = n → gs = gotP L pl → BestOk os L n s → BestOk os L n (tryF p os 3 L m pl fr wa gs s)
  | 0, pl, fr, wa, gs, s, hT, hP, hn, hg, hs => by
    unfold tryF
    split
    · rename_i h
      rw [Bool.and_eq_true] at h
      intro _
      refine ⟨⟨fun x hx => ?_, hP.a⟩, by show pl.length = n; omega, ?_⟩
      · have := hP.i x hx; have := hT.fr; omega
      · show wrF os (gotP L pl) 3 0 < 0
        rw [← hg]; exact of_decide_eq_true h.1
    · exact hs
  | m + 1, pl, fr, wa, gs, s, hT, hP, hn, hg, hs => by
    rw [tryF]
    split
    · exact hs
    · refine forI_inv (BestOk os L n) _ _ (fun k s hk hs => ?_) hs
      have hi : fr + k < L.length := by omega
      have hb := roomF_bd (os := os) (gs := gs) (xs := webL L (fr + k)) (last := (m == 0)) (n := 3) ho (fun i => by have := hT.g i; have := hT.u; omega) (getD_bd (hL.x (fr + k) hi) (by decide))
      refine forR_inv (BestOk os L n) _ _ (fun r s hr hs => ?_) hs
      have hr2 : r < ((roomF os gs (webL L (fr + k)) (m == 0) 3).2 - (roomF os gs (webL L (fr + k)) (m == 0) 3).1 + 1).toNat := by
        unfold runN at hr; split at hr <;> omega
      refine tryF_sound ho hL n m _ _ _ _ s (hT.next hL hi (by omega)) ⟨fun x hx => ?_, ?_⟩ (by simp; omega) (by rw [gotP_snoc, hg]) hs
      · rcases List.mem_append.1 hx with h | h
        · have := hP.i x h; omega
        · rw [List.mem_singleton.1 h]
          refine ⟨Nat.lt_succ_self _, ?_, ?_⟩ <;> show _ ≤ _ <;> (try show (1 : Int) ≤ _) <;> omega
      · refine List.pairwise_append.2 ⟨hP.a, List.pairwise_singleton _ _, fun x hx y hy => ?_⟩
        rw [List.mem_singleton.1 hy]
        have := hP.i x hx
        show x.1 < fr + k; omega
theorem getD_pair {pl : List (Nat × Int)} {j : Nat} (h : j < pl.length) : pl.getD j (0, 0) = pl[j] := by
  rw [List.getD_eq_getElem?_getD, List.getElem?_eq_getElem h]; rfl
theorem plG_get {p : Tp} {os : Nat → To} {pl : List (Nat × Int)} (hp : TpIn p) (ho : ∀ i, i < 3 → ToIn (os i)) (h : PlG pl (patL p os 3 3 []).length) (hl : pl.length ≤ 3) : GetOk p os pl.length (plX (patL p os 3 3 []) pl) := by
  have hm : ∀ j (hj : j < pl.length), pl[j] ∈ pl := fun j hj => List.getElem_mem hj
  have hi : ∀ j, j < pl.length → webL (patL p os 3 3 []) (pl.getD j (0, 0)).1 ∈ patL p os 3 3 [] := fun j hj => by
    rw [getD_pair hj, webL_at (h.i _ (hm j hj)).1]; exact List.getElem_mem _
  have hy : ∀ j, j < pl.length → _ := fun j hj => patL_mem hp 3 [] rfl (fun x h => nomatch h) _ (hi j hj)
  refine ⟨hl, fun j hj => (hy j hj).1, fun j hj => (hy j hj).2.1, fun j hj => (hy j hj).2.2, fun j hj => ?_, fun j h0 hj => ?_⟩
  · show 1 ≤ (pl.getD j (0, 0)).2 ∧ (pl.getD j (0, 0)).2 ≤ 30
    rw [getD_pair hj]; exact (h.i _ (hm j hj)).2
  · show LexLt (webL _ (pl.getD (j - 1) (0, 0)).1) (webL _ (pl.getD j (0, 0)).1) 3
    rw [getD_pair (show j - 1 < pl.length by omega), getD_pair hj]
    exact webL_lex (List.pairwise_iff_getElem.1 h.a (j - 1) j (by omega) hj (by omega)) (h.i _ (hm j hj)).1
open Go.RowKit
theorem planF_some {f : Nat → Se} {q : Se} : ∀ (c n : Nat), planF f c n = some q → ∃ k, k < n + c ∧ f k = q ∧ (f k).found = true
  | 0, n, h => by cases h
  | c + 1, n, h => by
    rw [planF] at h
    split at h
    · rename_i hf; cases h; exact ⟨n, by omega, rfl, hf⟩
    · obtain ⟨k, hk, h1⟩ := planF_some c (n + 1) h
      exact ⟨k, by omega, h1⟩
theorem plan_sound {p : Tp} {os : Nat → To} {q : Se} (hp : TpIn p) (ho : ∀ i, i < 3 → ToIn (os i)) (hq : planF (seN p os (patL p os 3 3 [])) 4 0 = some q) : q.best.length ≤ 3 ∧ GetOk p os q.best.length (plX (patL p os 3 3 []) q.best) ∧ wrF os (gotK (plX (patL p os 3 3 []) q.best) q.best.length) 3 0 = -1 := by
  have hL : LOk p os 3 (patL p os 3 3 []) := patL_ok hp ho
  obtain ⟨n, hn, e, hf⟩ := planF_some 4 0 hq
  have hs : BestOk os (patL p os 3 3 []) n (seN p os (patL p os 3 3 []) n) :=
    tryF_sound ho hL n n [] 0 0 [0, 0, 0] _ (tryOk_start (no := 3) (by omega)) ⟨(fun x h => nomatch h), List.Pairwise.nil⟩ rfl rfl (fun h => nomatch h)
  obtain ⟨a1, a2, a3⟩ := hs hf
  subst e
  exact ⟨by omega, plG_get hp ho a1 (by omega), wr_neg a3⟩
end Go.Proofs.Ytcgccflcjejlhaa
