/- Part of the proof: what the claim leans on. -/
import Derived.Test.YtolnpbpeifpbjaaVAV
import Derived.Test.YtolnpbpeifpbjaaVAM
set_option maxHeartbeats 16000000
set_option maxRecDepth 100000
set_option linter.unusedSimpArgs false
set_option linter.unusedVariables false
namespace Go.Proofs.Ytolnpbpeifpbjaa
open Go.RowKit
theorem armByte_nil (a : Option Addr) (c : Nat) (kq : Int) (w : World) :
  Calls Try.prog 36 #[.slice a 0 c, .int .i64 kq] w (fun e w' => e = .returned (.int .i64 0) ∧ Below w.heap.size w w') := by
 refine calls_fr Try.func36 Try.ntmps36 rfl rfl fun g hg => ?_
 have k0 : g 0 = .slice a 0 c := hg 0
 have k1 : g 1 = .int .i64 kq := hg 1
 clear hg
 have fB0 : Below w.heap.size w w := Below.refl _ _
 refine rw_ 1 [(4, 0)] [[]] (rel [iI 0])
  ⟨fun f s W d h i j k b => opz, trivial⟩ ?_
 intro f1 s1 W1 hB1 g1 hg1 z1
 have k1_0 := kt hg1 0 k0
 refine wp_seq_k fun K2 hK2 => ?_
 refine rw_ 3 [(5, 0), (6, 1), (7, 2)] [[], [0], [1]] (rel [is (.slice a 0 c), iI 0, iB true])
  ⟨fun f s W d h i j k b => opm (b.v 0 k1_0),
  fun f s W d h i j k b => opv rfl rfl (by simp [go_sem, b.e 5 (h 0 rfl)]) rfl,
  fun f s W d h i j k b => opv rfl rfl (by simp [go_sem, b.e 6 (h 1 rfl)]) rfl, trivial⟩ ?_
 intro f2 s2 W2 hB2 g2 hg2 z2
 have k2_7 := kt hg2 7 (hB2.is 2)
 refine wp_cond_true ((fr_eval rfl).trans k2_7) ?_
 refine rw_ 1 [(4, 0)] [[]] (rel [iI 0])
  ⟨fun f s W d h i j k b => opz, trivial⟩ ?_
 intro f3 s3 W3 hB3 g3 hg3 z3
 have fB3 := hB3.f (hB2.f (hB1.f fB0))
 have k3_4 := kt hg3 4 (hB3.is 0)
 refine wp_ret ?_
 refine then_ret ?_
 refine leave_one (N := 16) (.inr rfl) Try.results36 rfl k3_4 ?_
 exact ⟨rfl, fB3⟩
theorem armByte_at (bs : Nat → Int) (bb oo nn cc : Nat) (kq : Int) (qm : Nat) (w : World) (hR : ByR w bb oo nn bs) (gk : 0 ≤ kq ∧ kq ≤ 1000) (gn : 1 ≤ nn ∧ nn ≤ 9223372036854775807) (hqm : kq % (nn : Int) = (qm : Int)) (gbs : 0 ≤ bs qm ∧ bs qm ≤ 255) :
  Calls Try.prog 36 #[.slice (some ⟨bb, oo, none⟩) nn cc, .int .i64 kq] w (fun e w' => e = .returned (.int .i64 (bs qm)) ∧ Below w.heap.size w w') := by
 have hn0 : ((nn : Int) == 0) = false := beq_eq_false_iff_ne.2 (by omega)
 have hlt_ : kq % (nn : Int) < (nn : Int) := Int.emod_lt_of_pos _ (by omega)
 have ln : qm < nn := by omega
 have lz : (qm : Int) < (nn : Int) := by omega
 have li := Nat.not_le.2 ln
 refine calls_fr Try.func36 Try.ntmps36 rfl rfl fun g hg => ?_
 have k0 : g 0 = .slice (some ⟨bb, oo, none⟩) nn cc := hg 0
 have k1 : g 1 = .int .i64 kq := hg 1
 clear hg
 have fB0 : Below w.heap.size w w := Below.refl _ _
 refine rw_ 1 [(4, 0)] [[]] (rel [iI 0])
  ⟨fun f s W b c d h i a => opz, trivial⟩ ?_
 intro f1 s1 W1 hB1 g1 hg1 z1
 have k1_0 := kt hg1 0 k0
 refine wp_seq_k fun K2 hK2 => ?_
 refine rw_ 3 [(5, 0), (6, 1), (7, 2)] [[], [0], [1]] (rel [is (.slice (some ⟨bb, oo, none⟩) nn cc), iI ((nn : Int)), iB ((nn : Int) == 0)])
  ⟨fun f s W b c d h i a => opm (a.v 0 k1_0),
  fun f s W b c d h i a => opv rfl rfl (by simp [go_sem, a.e 5 (c 0 rfl)]) rfl,
  fun f s W b c d h i a => opv rfl rfl (by simp [go_sem, a.e 6 (c 1 rfl)]) rfl, trivial⟩ ?_
 intro f2 s2 W2 hB2 g2 hg2 z2
 have fB2 := hB2.f (hB1.f fB0)
 have k2_0 := kt hg2 0 k1_0
 have k2_1 := kt hg2 1 (kt hg1 1 k1)
 have k2_7 := kt hg2 7 (hB2.is 2)
 have hc4 : (fr 16 g2).eval (.tmp 7) = .bool false := ((fr_eval rfl).trans k2_7).trans (by rw [hn0])
 refine wp_cond_false (hc4) ?_
 refine wp_skip ?_
 refine hK2 _ _ ?_
 refine rw_ 9 [(8, 0), (9, 1), (10, 2), (11, 3), (12, 4), (13, 5), (14, 6), (15, 7), (4, 8)] [[], [], [], [2], [1, 3], [0, 4], [5], [6], [7]] (rel [is (.slice (some ⟨bb, oo, none⟩) nn cc), iI kq, is (.slice (some ⟨bb, oo, none⟩) nn cc), iI ((nn : Int)), iI ((qm : Int)), is (.pointer (some ⟨bb, oo + qm, none⟩)), is (.int .u8 ((bs qm))), iI ((bs qm)), iI ((bs qm))])
  ⟨fun f s W b c d h i a => opm (a.v 0 k2_0),
  fun f s W b c d h i a => opm (a.v 1 k2_1),
  fun f s W b c d h i a => opm (a.v 0 k2_0),
  fun f s W b c d h i a => opv rfl rfl (by simp [go_sem, a.e 10 (c 2 rfl)]) rfl,
  fun f s W b c d h i a => by have qu_ : (kq).tmod (nn : Int) = (qm : Int) := (Int.tmod_eq_emod_of_nonneg (by omega)).trans hqm; have qw_ := IntWalk.i64_in (qm : Int) (by omega); have qz_ : ¬ (nn : Int) = 0 := (by omega); have qn_ : ¬ nn = 0 := (by omega); exact opv rfl rfl (by simp [go_sem, a.e 9 (c 1 rfl), a.e 11 (c 3 rfl), qu_, qw_, qz_, qn_]) rfl,
  fun f s W b c d h i a => opv rfl rfl (by simp [go_sem, a.e 8 (c 0 rfl), a.e 12 (c 4 rfl), li, ln, lz]) rfl,
  fun f s W b c d h i a => by have j := bwt fB2 b; have cu := (hR.below j).2 qm ln; exact opv rfl rfl (by simp [go_sem, a.e 13 (c 5 rfl), cu]) rfl,
  fun f s W b c d h i a => by have cv_ := IntWalk.i64_in (bs qm) (by omega); exact opv rfl rfl (by simp [go_sem, a.e 14 (c 6 rfl), cv_]) rfl,
  fun f s W b c d h i a => opm (a.v 15 (c 7 rfl)), trivial⟩ ?_
 intro f3 s3 W3 hB3 g3 hg3 z3
 have fB3 := hB3.f fB2
 have k3_4 := kt hg3 4 (hB3.is 8)
 refine wp_ret ?_
 refine leave_one (N := 16) (.inr rfl) Try.results36 rfl k3_4 ?_
 exact ⟨rfl, fB3⟩
theorem armByte_any (a : Option Addr) (n c : Nat) (bs : Nat → Int) (k : Nat) (w : World) (h : ByV w a n bs) (hk : k ≤ 1000) :
    Calls Try.prog 36 #[.slice a n c, .int .i64 k] w (fun e w' => e = .returned (.int .i64 (byAt n bs k)) ∧ Below w.heap.size w w') := by
  by_cases h0 : n = 0
  · subst h0
    have := armByte_nil a c (k : Int) w
    simpa [byAt] using this
  · rcases h with h | ⟨b, o, rfl, h1, h2, h3⟩
    · exact absurd h h0
    · have hl : k % n < n := Nat.mod_lt _ (by omega)
      have := armByte_at bs b o n c (k : Int) (k % n) w h1 (by omega) (by omega) (by simp) (h3 _ hl)
      rw [show byAt n bs k = bs (k % n) from by unfold byAt; rw [if_neg h0]]
      exact this
theorem armMake_any (ap af ay : Option Addr) (np cp nf cf nb cb nP nF : Nat) (bv fb : Nat → Nat → Int) (bs : Nat → Int) (w : World) (hRp : RowsB w ap np 6 bv) (hRf : RowsB w af nf 3 fb) (hwb : WareB np nf bv fb) (hnP : nP = max 2 (min 5 np)) (hnF : nF = max 1 (min 3 nf)) (hT : ByV w ay nb bs) :
    Calls Try.prog 16 #[.agg #[.slice ap np cp, .slice af nf cf, .slice ay nb cb]] w (MkVP nP nF (paZ bv) nb bs w) := by
  have hP5 : nP ≤ 5 ∧ 2 ≤ nP := by omega
  have hF3 : nF ≤ 3 ∧ 1 ≤ nF := by omega
  have hpF : 0 < nF := by omega
  refine calls_fr Try.func16 Try.ntmps16 rfl rfl fun g hg => ?_
  have k0 : g 0 = .agg #[.slice ap np cp, .slice af nf cf, .slice ay nb cb] := hg 0
  clear hg
  have fB0 : Below w.heap.size w w := Below.refl _ _
  refine rw_ 2 [(1, 0), (2, 1)] [[], []] (rel [bx 0 #[.slice ap np cp, .slice af nf cf, .slice ay nb cb] 60, bx 1 #[.slice none 0 0, .slice none 0 0] 71])
    ⟨fun f s W c d j l m a => opb rfl rfl (by simp [go_sem, a.e 0 k0]),
    fun f s W c d j l m a => opb rfl rfl (by simp [go_sem]), trivial⟩ ?_
  intro f1 s1 W1 hB1 g1 hg1 z1
  have fB1 := hB1.f fB0
  obtain ⟨r1_0, br1_0⟩ := hB1.is 0
  have lr1_0 := hB1.lr 0 br1_0
  obtain ⟨r1_1, br1_1⟩ := hB1.is 1
  have lr1_1 := hB1.lr 1 br1_1
  have ne1_0_1 := hB1.nb 0 1
  have k1_1 := kt hg1 1 r1_0
  refine wp_seq_k fun K2 hK2 => ?_
  refine rz 5 [(11, 0), (12, 1), (13, 2), (3, 3), (4, 4)] [[], [0], [], [], [], [0, 1, 3, 4], [0, 1, 2, 3, 4, 5]] (rel [is (.agg #[.slice ap np cp, .slice af nf cf, .slice ay nb cb]), ab fun v W => StoN 0 nP nF (paZ bv) (fuW fb) v W, is (.agg #[.slice none 0 0, .slice none 0 0]), bx 3 #[.slice none 0 0, .slice none 0 0] 68, bx 4 #[.slice none 0 0, .slice none 0 0] 71])
    ⟨is_k, ab_k fun v W W' hb h => h.below hb, is_k, bx_k, bx_k, trivial⟩
    ⟨fun f s W c d j l m a => opv rfl rfl (by simp [go_sem, a.e 1 k1_1, cl (bwb br1_0 c) 0, cl (bwb br1_0 c) 1, cl (bwb br1_0 c) 2]) rfl,
    fun f s W c d j l m a => by have p := bwt fB1 c; exact opd rfl rfl (by simp [go_sem, a.e 11 (d 0 rfl)]) (armStore_any ap af ay np cp nf cf nb cb nP nF bv fb W (hRp.below p) (hRf.below p) hwb hnP hnF) ((fun e W' h => by obtain ⟨v, e1, h1, h2⟩ := h; exact ⟨_, e1, h2, h1.low (Nat.zero_le _)⟩)),
    fun f s W c d j l m a => opv rfl rfl (by simp [go_sem]) rfl,
    fun f s W c d j l m a => opb rfl rfl (by simp [go_sem]),
    fun f s W c d j l m a => opb rfl rfl (by simp [go_sem]), trivial⟩ ?_
  intro f2 s2 W2 hB2 g2 hg2 z2
  have fB2 := hB2.f fB1
  have b2_0 := hB2.b br1_0
  have b2_1 := hB2.b br1_1
  obtain ⟨g1', c3', g2', c4', r2_1, q5', q6'⟩ := hB2.is 1
  obtain ⟨r2_3, br2_3⟩ := hB2.is 3
  have lr2_3 := hB2.lr 3 br2_3
  obtain ⟨r2_4, br2_4⟩ := hB2.is 4
  have lr2_4 := hB2.lr 4 br2_4
  have ne2_3_4 := hB2.nb 3 4
  have k2_12 := kt hg2 12 r2_1
  have k2_13 := kt hg2 13 (hB2.is 2)
  have k2_3 := kt hg2 3 r2_3
  have k2_4 := kt hg2 4 r2_4
  obtain ⟨W3, hW3⟩ : ∃ W', W' = W2.setRow (s2 3) #[.slice (some ⟨g1', 0, none⟩) nP c3', .slice (some ⟨g2', 0, none⟩) nF c4'] := ⟨_, rfl⟩
  refine tsk (o := _) rfl ⟨rfl, rfl⟩ (run_seg hW3 (fr_ev k2_3) (fr_ev k2_12) br2_3 rfl rfl rfl rfl) ?_
  obtain ⟨fB3, nb3, ot3, z3⟩ := sgf hW3 fB2 br2_3 (by omega)
  clear hW3
  have b3_0 := ot3 _ _ (by omega) b2_0
  have b3_1 := ot3 _ _ (by omega) b2_1
  have b3_3 := ot3 _ _ (by omega) br2_4
  have q7' := q5'.other ot3 (ownN_ne q5' br2_3) z3
  have q8' := q6'.other ot3 (ownN_ne q6' br2_3) z3
  obtain ⟨W4, hW4⟩ : ∃ W', W' = W3.setRow (s2 4) #[.slice none 0 0, .slice none 0 0] := ⟨_, rfl⟩
  refine tsk (o := _) rfl ⟨rfl, rfl⟩ (run_seg hW4 (fr_ev k2_4) (fr_ev k2_13) b3_3 rfl rfl rfl rfl) ?_
  obtain ⟨fB4, nb4, ot4, z4⟩ := sgf hW4 fB3 b3_3 (by omega)
  clear hW4
  have b4_0 := ot4 _ _ (by omega) b3_0
  have b4_1 := ot4 _ _ (by omega) b3_1
  have b4_2 := ot4 _ _ (by omega) nb3
  have q9' := q7'.other ot4 (ownN_ne q7' b3_3) z4
  have q10' := q8'.other ot4 (ownN_ne q8' b3_3) z4
  refine wpe ?_
  refine hK2 _ _ ?_
  refine wp_seq_k fun K3 hK3 => ?_
  refine ry 2 [(14, 0), (5, 1)] [[], [], [0, 1]] (rel [is (.agg #[.slice none 0 0, .slice none 0 0]), bx 1 #[.slice none 0 0, .slice none 0 0] 106])
    ⟨fun f s W c d j l m a => opv rfl rfl (by simp [go_sem]) rfl,
    fun f s W c d j l m a => opb rfl rfl (by simp [go_sem]), trivial⟩ ?_
  intro f5 s5 W5 hB5 g5 hg5 z5
  have fB5 := hB5.f fB4
  have b5_0 := hB5.b b4_0
  have b5_1 := hB5.b b4_1
  have b5_2 := hB5.b b4_2
  have b5_3 := hB5.b nb4
  have q11' := (q9'.below hB5.below)
  have q12' := (q10'.below hB5.below)
  obtain ⟨r5_1, br5_1⟩ := hB5.is 1
  have lr5_1 := hB5.lr 1 br5_1
  have k5_14 := kt hg5 14 (hB5.is 0)
  have k5_5 := kt hg5 5 r5_1
  obtain ⟨W6, hW6⟩ : ∃ W', W' = W5.setRow (s5 1) #[.slice none 0 0, .slice none 0 0] := ⟨_, rfl⟩
  refine tsk (o := _) rfl ⟨rfl, rfl⟩ (run_seg hW6 (fr_ev k5_5) (fr_ev k5_14) br5_1 rfl rfl rfl rfl) ?_
  obtain ⟨fB6, nb6, ot6, z6⟩ := sgf hW6 fB5 br5_1 (by omega)
  clear hW6
  have b6_0 := ot6 _ _ (by omega) b5_0
  have b6_1 := ot6 _ _ (by omega) b5_1
  have b6_2 := ot6 _ _ (by omega) b5_2
  have b6_3 := ot6 _ _ (by omega) b5_3
  have q13' := q11'.other ot6 (ownN_ne q11' br5_1) z6
  have q14' := q12'.other ot6 (ownN_ne q12' br5_1) z6
  refine wpe ?_
  refine hK3 _ _ ?_
  have oi0 : OwnN 3 1 w.heap.size 0 (iis []) none 0 W6 := ownN_nil
  have oi1 : OwnN 3 1 w.heap.size 0 (iis []) none 0 W6 := ownN_nil
  refine wp_seq_k fun K4 hK4 => ?_
  refine rw_ 1 [(6, 0)] [[]] (rel [iI 0])
    ⟨fun f s W c d j l m a => opz, trivial⟩ ?_
  intro f7 s7 W7 hB7 g7 hg7 z7
  have fB7 := hB7.f fB6
  have b7_0 := hB7.b b6_0
  have b7_1 := hB7.b b6_1
  have b7_2 := hB7.b b6_2
  have b7_3 := hB7.b b6_3
  have b7_4 := hB7.b nb6
  have q15' := (q13'.below hB7.below)
  have q16' := (q14'.below hB7.below)
  have q17' := (oi0.below hB7.below)
  have q18' := (oi1.below hB7.below)
  have k7_1 := kt hg7 1 (kt hg5 1 (kt hg2 1 k1_1))
  have k7_2 := kt hg7 2 (kt hg5 2 (kt hg2 2 (kt hg1 2 r1_1)))
  have k7_3 := kt hg7 3 (kt hg5 3 k2_3)
  have k7_4 := kt hg7 4 (kt hg5 4 k2_4)
  have k7_5 := kt hg7 5 k5_5
  have k7_6 := kt hg7 6 (hB7.is 0)
  refine wp_block ?_
  refine wp_loop_n (fun m_ a_ W_ => ∃ g_ : Nat → Value, a_ = fr 87 g_ ∧ (∃ i : Nat, ∃ n0 : Nat, ∃ n1 : Nat, ∃ a0 : Option Addr, ∃ a1 : Option Addr, ∃ c0 : Nat, ∃ c1 : Nat, ∃ l0 : List Int, ∃ l1 : List Int, m_ = nP - i ∧ g_ 1 = .pointer (some ⟨(s1 0), 0, none⟩) ∧ g_ 2 = .pointer (some ⟨(s1 1), 0, none⟩) ∧ g_ 3 = .pointer (some ⟨(s2 3), 0, none⟩) ∧ g_ 4 = .pointer (some ⟨(s2 4), 0, none⟩) ∧ g_ 5 = .pointer (some ⟨(s5 1), 0, none⟩) ∧ g_ 6 = .int .i64 ((i : Int)) ∧ Below w.heap.size w W_ ∧ W7.heap.size ≤ W_.heap.size ∧ W_.heap[(s1 0)]? = some (.cells #[.slice ap np cp, .slice af nf cf, .slice ay nb cb] 60 (0, 0)) ∧ W_.heap[(s1 1)]? = some (.cells #[.slice none 0 0, .slice none 0 0] 71 (0, 0)) ∧ W_.heap[(s2 3)]? = some (.cells #[.slice (some ⟨g1', 0, none⟩) nP c3', .slice (some ⟨g2', 0, none⟩) nF c4'] 68 (0, 0)) ∧ W_.heap[(s2 4)]? = some (.cells #[.slice none 0 0, .slice none 0 0] 71 (0, 0)) ∧ W_.heap[(s5 1)]? = some (.cells #[.slice a0 n0 c0, .slice a1 n1 c1] 106 (0, 0)) ∧ OwnN 103 8 0 nP (paL (paZ bv) nP) (some ⟨g1', 0, none⟩) c3' W_ ∧ OwnN 105 4 0 nF (fuL (fuW fb) nF) (some ⟨g2', 0, none⟩) c4' W_ ∧ OwnN 3 1 w.heap.size n0 (iis l0) (a0) c0 W_ ∧ OwnN 3 1 w.heap.size n1 (iis l1) (a1) c1 W_ ∧ (i ≤ nP) ∧ (KiL (paZ bv) 1 i l0) ∧ (KiL (paZ bv) 2 i l1) ∧ (1 ≤ i → l0 ≠ []) ∧ (2 ≤ i → l1 ≠ []) ∧ (∀ x y, a0 = some ⟨x, 0, none⟩ → a1 = some ⟨y, 0, none⟩ → x ≠ y) ∧ (l0.length = n0) ∧ (l1.length = n1))) ⟨_, g7, rfl, 0, 0, 0, none, none, 0, 0, [], [], rfl, k7_1, k7_2, k7_3, k7_4, k7_5, k7_6.trans (by rfl), fB7, Nat.le_refl _, b7_0, b7_1, b7_2, b7_3, b7_4, q15', q16', q17', q18', (by omega), (kiL_nil _ _), (kiL_nil _ _), (fun h => absurd h (by decide)), (fun h => absurd h (by decide)), (fun x y e => by cases e), rfl, rfl⟩ ?_
  rintro _ _ W_19 ⟨g_19, rfl, i, n0, n1, a0, a1, c0, c1, l0, l1, rfl, k_19_1, k_19_2, k_19_3, k_19_4, k_19_5, k_19_6, fB_19, z_19, b_19_0, b_19_1, b_19_2, b_19_3, m_19_0, q20', q21', q22', q23', lk0, lk1, lk2, lk3, lk4, lk5, lk6, lk7⟩
  have hl0_ := lk1.1
  have hl1_ := lk2.1
  refine wp_seq_k fun K6 hK6 => ?_
  refine rw_ 5 [(15, 0), (16, 1), (17, 2), (18, 3), (19, 4)] [[], [], [1], [2], [0, 3]] (rel [iI ((i : Int)), is (.pointer (some ⟨(s2 3), 0, none⟩)), is (.slice (some ⟨g1', 0, none⟩) nP c3'), iI ((nP : Int)), iB (decide ((i : Int) < (nP : Int)))])
    ⟨fun f s W c d j l m a => opm (a.v 6 k_19_6),
    fun f s W c d j l m a => opv rfl rfl (by simp [go_sem, a.e 3 k_19_3]) rfl,
    fun f s W c d j l m a => opv rfl rfl (by simp [go_sem, a.e 16 (d 1 rfl), cl (bwb b_19_2 c) 0]) rfl,
    fun f s W c d j l m a => opv rfl rfl (by simp [go_sem, a.e 17 (d 2 rfl)]) rfl,
    fun f s W c d j l m a => opv rfl rfl (by simp [go_sem, a.e 15 (d 0 rfl), a.e 18 (d 3 rfl)]) rfl, trivial⟩ ?_
  intro f8 s8 W8 hB8 g8 hg8 z8
  have fB8 := hB8.f fB_19
  have b8_0 := hB8.b b_19_0
  have b8_1 := hB8.b b_19_1
  have b8_2 := hB8.b b_19_2
  have b8_3 := hB8.b b_19_3
  have b8_4 := hB8.b m_19_0
  have q24' := (q20'.below hB8.below)
  have q25' := (q21'.below hB8.below)
  have q26' := (q22'.below hB8.below)
  have q27' := (q23'.below hB8.below)
  have k8_1 := kt hg8 1 k_19_1
  have k8_2 := kt hg8 2 k_19_2
  have k8_3 := kt hg8 3 k_19_3
  have k8_4 := kt hg8 4 k_19_4
  have k8_5 := kt hg8 5 k_19_5
  have k8_6 := kt hg8 6 k_19_6
  have k8_19 := kt hg8 19 (hB8.is 4)
  refine wp_cond_split (t := decide ((i : Int) < (nP : Int))) ((fr_eval rfl).trans k8_19) (fun hc8 => ?_) (fun hc8 => ?_)
  ·
    have hc8' := hc8; try simp only [ba] at hc8'
    have hin : i < nP := by omega
    refine wp_skip ?_
    refine hK6 _ _ ?_
    refine wp_seq_k fun K9 hK9 => ?_
    refine wp_block ?_
    refine rw_ 8 [(22, 0), (23, 1), (24, 2), (25, 3), (26, 4), (27, 5), (28, 6), (7, 7)] [[], [0], [], [1, 2], [3], [4], [5], [6]] (rel [is (.pointer (some ⟨(s2 3), 0, none⟩)), is (.slice (some ⟨g1', 0, none⟩) nP c3'), iI ((i : Int)), is (.pointer (some ⟨g1', i * 8, none⟩)), is (.pointer (some ⟨g1', i * 8, none⟩)), iI ((paZ bv i).kind), iI (((paZ bv i).kind) - 1), iI (((paZ bv i).kind) - 1)])
      ⟨fun f s W c d j l m a => opv rfl rfl (by simp [go_sem, a.e 3 k8_3]) rfl,
    fun f s W c d j l m a => opv rfl rfl (by simp [go_sem, a.e 22 (d 0 rfl), cl (bwb b8_2 c) 0]) rfl,
    fun f s W c d j l m a => opm (a.v 6 k8_6),
    fun f s W c d j l m a => by have li_ := Nat.not_le.2 hin; have li2_ : (i : Int) < (nP : Int) := (by omega); exact opv rfl rfl (by simp [go_sem, a.e 23 (d 1 rfl), a.e 24 (d 2 rfl), li_, li2_]) rfl,
    fun f s W c d j l m a => opv rfl rfl (by simp [go_sem, a.e 25 (d 3 rfl)]) rfl,
    fun f s W c d j l m a => by have cu_ : W.cell? ⟨g1', i * 8, none⟩ = some (.int .i64 (paZ bv i).kind) := (by have := ((OwnN.row (q24'.below c)).paR.2 i hin).1; rw [Nat.zero_add] at this; exact this); exact opv rfl rfl (by simp [go_sem, a.e 26 (d 4 rfl), cu_]) rfl,
    fun f s W c d j l m a => opv rfl rfl (by simp [go_sem, a.e 27 (d 5 rfl), IntWalk.i64_in (((paZ bv i).kind) - 1) (by have := (paZ_in hwb.1 i).kind; omega)]) rfl,
    fun f s W c d j l m a => opm (a.v 28 (d 6 rfl)), trivial⟩ ?_
    intro f9 s9 W9 hB9 g9 hg9 z9
    have fB9 := hB9.f fB8
    have b9_0 := hB9.b b8_0
    have b9_1 := hB9.b b8_1
    have b9_2 := hB9.b b8_2
    have b9_3 := hB9.b b8_3
    have b9_4 := hB9.b b8_4
    have q28' := (q24'.below hB9.below)
    have q29' := (q25'.below hB9.below)
    have q30' := (q26'.below hB9.below)
    have q31' := (q27'.below hB9.below)
    have k9_1 := kt hg9 1 k8_1
    have k9_2 := kt hg9 2 k8_2
    have k9_3 := kt hg9 3 k8_3
    have k9_4 := kt hg9 4 k8_4
    have k9_5 := kt hg9 5 k8_5
    have k9_6 := kt hg9 6 k8_6
    have k9_7 := kt hg9 7 (hB9.is 7)
    rcases (paZ_in hwb.1 i).kind with hkd | hkd
    ·
      have kz32 : g9 7 = .int .i64 0 := k9_7.trans (by simp [hkd])
      refine ry 6 [(29, 0), (30, 1), (31, 2), (32, 3), (33, 4), (34, 5), (35, 6), (36, 7)] [[], [], [1], [1, 2], [], [4], [1, 2, 3, 4, 5], [0, 1, 2, 3, 4, 5, 6], [0, 1, 2, 3, 4, 5, 6, 7]] (rel [iI 0, iI 0, is (.pointer (some ⟨(s5 1), 0, none⟩)), is (.slice a0 n0 c0), iI ((i : Int)), row 5 1 #[.int .i64 ((i : Int))] 3])
        ⟨fun f s W c d j l m a => opm (a.v 7 kz32),
    fun f s W c d j l m a => opm (a.v 7 kz32),
    fun f s W c d j l m a => opv rfl rfl (by simp [go_sem, a.e 5 k9_5, a.e 30 (d 1 rfl)]) rfl,
    fun f s W c d j l m a => opv rfl rfl (by simp [go_sem, a.e 31 (d 2 rfl), cl (bwb b9_4 c) 0]) rfl,
    fun f s W c d j l m a => opm (a.v 6 k9_6),
    fun f s W c d j l m a => opr rfl rfl (by simp [go_sem, a.e 33 (d 4 rfl)]), trivial⟩ ?_
      intro f10 s10 W10 hB10 g10 hg10 z10
      have fB10 := hB10.f fB9
      have b10_0 := hB10.b b9_0
      have b10_1 := hB10.b b9_1
      have b10_2 := hB10.b b9_2
      have b10_3 := hB10.b b9_3
      have b10_4 := hB10.b b9_4
      have q33' := (q28'.below hB10.below)
      have q34' := (q29'.below hB10.below)
      have q35' := (q30'.below hB10.below)
      have q36' := (q31'.below hB10.below)
      obtain ⟨r10_5, br10_5⟩ := hB10.is 5
      have lr10_5 := hB10.lr 5 br10_5
      have k10_32 := kt hg10 32 (hB10.is 3)
      have k10_34 := kt hg10 34 r10_5
      obtain ⟨ga11, ca11, W11, ra11, ow11, ot11, z11, gg11, fB11⟩ := growN_tail 39 39 3 1 8 _ (by kernel_rfl) infoI rfl (iis (l0 ++ [(i : Int)])) (n0 + 1) (off := 0) (k := 1) (c' := 1) [.int .i64 ((i : Int))] fB10 q35' (iis_snoc _ _) rfl rfl rfl (cells_at br10_5) (by omega)
      refine tail_value2 (o := _) rfl rfl rfl (run_appendOp (fr_ev k10_32) (fr_ev k10_34) ra11) ?_
      have b11_0 := ot11 _ _ (ownN_ne q35' b10_0) b10_0
      have b11_1 := ot11 _ _ (ownN_ne q35' b10_1) b10_1
      have b11_2 := ot11 _ _ (ownN_ne q35' b10_2) b10_2
      have b11_3 := ot11 _ _ (ownN_ne q35' b10_3) b10_3
      have b11_4 := ot11 _ _ (ownN_ne q35' b10_4) b10_4
      have q37' := OwnN.otherN q33' q35' ot11 z11
      have q38' := OwnN.otherN q34' q35' ot11 z11
      have q39' := OwnN.otherG q36' ot11 z11 (fun x y e e' => Ne.symm (lk5 y x e' e)) q35'
      have nk11 : ∀ x y, (some ⟨ga11, 0, none⟩ : Option Addr) = some ⟨x, 0, none⟩ → a1 = some ⟨y, 0, none⟩ → x ≠ y := by
        intro x y e e'
        cases e
        rcases gg11 with h | h
        · exact lk5 _ _ h e'
        · have := (OwnN.lim q36' y e').2; omega
      have on11 : OwnN 3 1 w.heap.size (n0 + 1) (iis (l0 ++ [(i : Int)])) (some ⟨ga11, 0, none⟩) ca11 W11 := .inr ⟨_, rfl, ow11⟩
      generalize hg11 : upd g10 35 (.slice (some ⟨ga11, 0, none⟩) ((n0 + 1)) (ca11)) = g11
      have k11_5 := ku hg11 5 (kt hg10 5 k9_5)
      have k11_29 := ku hg11 29 (kt hg10 29 (hB10.is 0))
      refine tail_value (o := _) rfl rfl rfl (v := .pointer (some ⟨(s5 1), 0, none⟩)) (by simp [go_sem, frv 87 k11_5, frv 87 k11_29]) ?_
      generalize hg12 : upd g11 36 (.pointer (some ⟨(s5 1), 0, none⟩)) = g12
      have k12_1 := ku hg12 1 (ku hg11 1 (kt hg10 1 k9_1))
      have k12_2 := ku hg12 2 (ku hg11 2 (kt hg10 2 k9_2))
      have k12_3 := ku hg12 3 (ku hg11 3 (kt hg10 3 k9_3))
      have k12_4 := ku hg12 4 (ku hg11 4 (kt hg10 4 k9_4))
      have k12_5 := ku hg12 5 k11_5
      have k12_6 := ku hg12 6 (ku hg11 6 (kt hg10 6 k9_6))
      have k12_35 := ku hg12 35 (kt hg11 35 (upd_same _ _ _))
      have k12_36 := kt hg12 36 (upd_same _ _ _)
      obtain ⟨W13, hW13⟩ : ∃ W', W' = W11.setRow (s5 1) #[.slice (some ⟨ga11, 0, none⟩) ((n0 + 1)) (ca11), .slice a1 n1 c1] := ⟨_, rfl⟩
      refine tsk (o := _) rfl ⟨rfl, rfl⟩ (run_seg hW13 (fr_ev k12_36) (fr_ev k12_35) b11_4 rfl rfl rfl rfl) ?_
      obtain ⟨fB13, nb13, ot13, z13⟩ := sgf hW13 fB11 b11_4 (by omega)
      clear hW13
      have b13_0 := ot13 _ _ (by omega) b11_0
      have b13_1 := ot13 _ _ (by omega) b11_1
      have b13_2 := ot13 _ _ (by omega) b11_2
      have b13_3 := ot13 _ _ (by omega) b11_3
      have q40' := q37'.other ot13 (ownN_ne q37' b11_4) z13
      have q41' := q38'.other ot13 (ownN_ne q38' b11_4) z13
      have q42' := q39'.other ot13 (ownN_ne q39' b11_4) z13
      have q43' := on11.other ot13 (ownN_ne on11 b11_4) z13
      refine wpe ?_
      refine ibn ?_
      refine hK9 _ _ ?_
      refine ry 3 [(20, 0), (21, 1), (6, 2)] [[], [0], [0, 1]] (rel [iI ((i : Int)), iI ((i : Int) + 1), iI ((i : Int) + 1)])
        ⟨fun f s W c d j l m a => opm (a.v 6 ((l 2 6 rfl rfl).trans k12_6)),
    fun f s W c d j l m a => opv rfl rfl (by simp [go_sem, a.e 20 (d 0 rfl), IntWalk.i64_in ((i : Int) + 1) (by omega)]) rfl,
    fun f s W c d j l m a => opm (a.v 21 (d 1 rfl)), trivial⟩ ?_
      intro f14 s14 W14 hB14 g14 hg14 z14
      have fB14 := hB14.f fB13
      have b14_0 := hB14.b b13_0
      have b14_1 := hB14.b b13_1
      have b14_2 := hB14.b b13_2
      have b14_3 := hB14.b b13_3
      have b14_4 := hB14.b nb13
      have q44' := (q40'.below hB14.below)
      have q45' := (q41'.below hB14.below)
      have q46' := (q42'.below hB14.below)
      have q47' := (q43'.below hB14.below)
      refine wpe ?_
      have k14_1 := kt hg14 1 k12_1
      have k14_2 := kt hg14 2 k12_2
      have k14_3 := kt hg14 3 k12_3
      have k14_4 := kt hg14 4 k12_4
      have k14_5 := kt hg14 5 k12_5
      have k14_6 := kt hg14 6 (hB14.is 2)
      refine then_normal ?_
      exact ⟨_, by omega, g14, rfl, i + 1, (n0 + 1), n1, some ⟨ga11, 0, none⟩, a1, ca11, c1, (l0 ++ [(i : Int)]), l1, rfl, k14_1, k14_2, k14_3, k14_4, k14_5, k14_6.trans (by go_num), fB14, (by omega), b14_0, b14_1, b14_2, b14_3, b14_4, q44', q45', q47', q46', (by omega), lk1.put hkd, lk2.skip (by rw [hkd]; decide), (fun _ => by simp), (fun h => by rcases (show 2 ≤ i ∨ i = 1 by omega) with h0 | h0; exact lk4 h0; subst h0; rw [paZ_k1] at hkd; omega), nk11, (by simp [lk6]), lk7⟩
    ·
      have kz48 : g9 7 = .int .i64 1 := k9_7.trans (by simp [hkd])
      refine ry 6 [(29, 0), (30, 1), (31, 2), (32, 3), (33, 4), (34, 5), (35, 6), (36, 7)] [[], [], [1], [1, 2], [], [4], [1, 2, 3, 4, 5], [0, 1, 2, 3, 4, 5, 6], [0, 1, 2, 3, 4, 5, 6, 7]] (rel [iI 1, iI 1, is (.pointer (some ⟨(s5 1), 1, none⟩)), is (.slice a1 n1 c1), iI ((i : Int)), row 5 1 #[.int .i64 ((i : Int))] 3])
        ⟨fun f s W c d j l m a => opm (a.v 7 kz48),
    fun f s W c d j l m a => opm (a.v 7 kz48),
    fun f s W c d j l m a => opv rfl rfl (by simp [go_sem, a.e 5 k9_5, a.e 30 (d 1 rfl)]) rfl,
    fun f s W c d j l m a => opv rfl rfl (by simp [go_sem, a.e 31 (d 2 rfl), cl (bwb b9_4 c) 1]) rfl,
    fun f s W c d j l m a => opm (a.v 6 k9_6),
    fun f s W c d j l m a => opr rfl rfl (by simp [go_sem, a.e 33 (d 4 rfl)]), trivial⟩ ?_
      intro f15 s15 W15 hB15 g15 hg15 z15
      have fB15 := hB15.f fB9
      have b15_0 := hB15.b b9_0
      have b15_1 := hB15.b b9_1
      have b15_2 := hB15.b b9_2
      have b15_3 := hB15.b b9_3
      have b15_4 := hB15.b b9_4
      have q49' := (q28'.below hB15.below)
      have q50' := (q29'.below hB15.below)
      have q51' := (q30'.below hB15.below)
      have q52' := (q31'.below hB15.below)
      obtain ⟨r15_5, br15_5⟩ := hB15.is 5
      have lr15_5 := hB15.lr 5 br15_5
      have k15_32 := kt hg15 32 (hB15.is 3)
      have k15_34 := kt hg15 34 r15_5
      obtain ⟨ga16, ca16, W16, ra16, ow16, ot16, z16, gg16, fB16⟩ := growN_tail 39 39 3 1 8 _ (by kernel_rfl) infoI rfl (iis (l1 ++ [(i : Int)])) (n1 + 1) (off := 0) (k := 1) (c' := 1) [.int .i64 ((i : Int))] fB15 q52' (iis_snoc _ _) rfl rfl rfl (cells_at br15_5) (by omega)
      refine tail_value2 (o := _) rfl rfl rfl (run_appendOp (fr_ev k15_32) (fr_ev k15_34) ra16) ?_
      have b16_0 := ot16 _ _ (ownN_ne q52' b15_0) b15_0
      have b16_1 := ot16 _ _ (ownN_ne q52' b15_1) b15_1
      have b16_2 := ot16 _ _ (ownN_ne q52' b15_2) b15_2
      have b16_3 := ot16 _ _ (ownN_ne q52' b15_3) b15_3
      have b16_4 := ot16 _ _ (ownN_ne q52' b15_4) b15_4
      have q53' := OwnN.otherN q49' q52' ot16 z16
      have q54' := OwnN.otherN q50' q52' ot16 z16
      have q55' := OwnN.otherG q51' ot16 z16 (fun x y e e' => lk5 x y e e') q52'
      have nk16 : ∀ x y, (some ⟨ga16, 0, none⟩ : Option Addr) = some ⟨x, 0, none⟩ → a0 = some ⟨y, 0, none⟩ → x ≠ y := by
        intro x y e e'
        cases e
        rcases gg16 with h | h
        · exact Ne.symm (lk5 _ _ e' h)
        · have := (OwnN.lim q51' y e').2; omega
      have on16 : OwnN 3 1 w.heap.size (n1 + 1) (iis (l1 ++ [(i : Int)])) (some ⟨ga16, 0, none⟩) ca16 W16 := .inr ⟨_, rfl, ow16⟩
      generalize hg16 : upd g15 35 (.slice (some ⟨ga16, 0, none⟩) ((n1 + 1)) (ca16)) = g16
      have k16_5 := ku hg16 5 (kt hg15 5 k9_5)
      have k16_29 := ku hg16 29 (kt hg15 29 (hB15.is 0))
      refine tail_value (o := _) rfl rfl rfl (v := .pointer (some ⟨(s5 1), 1, none⟩)) (by simp [go_sem, frv 87 k16_5, frv 87 k16_29]) ?_
      generalize hg17 : upd g16 36 (.pointer (some ⟨(s5 1), 1, none⟩)) = g17
      have k17_1 := ku hg17 1 (ku hg16 1 (kt hg15 1 k9_1))
      have k17_2 := ku hg17 2 (ku hg16 2 (kt hg15 2 k9_2))
      have k17_3 := ku hg17 3 (ku hg16 3 (kt hg15 3 k9_3))
      have k17_4 := ku hg17 4 (ku hg16 4 (kt hg15 4 k9_4))
      have k17_5 := ku hg17 5 k16_5
      have k17_6 := ku hg17 6 (ku hg16 6 (kt hg15 6 k9_6))
      have k17_35 := ku hg17 35 (kt hg16 35 (upd_same _ _ _))
      have k17_36 := kt hg17 36 (upd_same _ _ _)
      obtain ⟨W18, hW18⟩ : ∃ W', W' = W16.setRow (s5 1) #[.slice a0 n0 c0, .slice (some ⟨ga16, 0, none⟩) ((n1 + 1)) (ca16)] := ⟨_, rfl⟩
      refine tsk (o := _) rfl ⟨rfl, rfl⟩ (run_seg hW18 (fr_ev k17_36) (fr_ev k17_35) b16_4 rfl rfl rfl rfl) ?_
      obtain ⟨fB18, nb18, ot18, z18⟩ := sgf hW18 fB16 b16_4 (by omega)
      clear hW18
      have b18_0 := ot18 _ _ (by omega) b16_0
      have b18_1 := ot18 _ _ (by omega) b16_1
      have b18_2 := ot18 _ _ (by omega) b16_2
      have b18_3 := ot18 _ _ (by omega) b16_3
      have q56' := q53'.other ot18 (ownN_ne q53' b16_4) z18
      have q57' := q54'.other ot18 (ownN_ne q54' b16_4) z18
      have q58' := q55'.other ot18 (ownN_ne q55' b16_4) z18
      have q59' := on16.other ot18 (ownN_ne on16 b16_4) z18
      refine wpe ?_
      refine ibn ?_
      refine hK9 _ _ ?_
      refine ry 3 [(20, 0), (21, 1), (6, 2)] [[], [0], [0, 1]] (rel [iI ((i : Int)), iI ((i : Int) + 1), iI ((i : Int) + 1)])
        ⟨fun f s W c d j l m a => opm (a.v 6 ((l 2 6 rfl rfl).trans k17_6)),
    fun f s W c d j l m a => opv rfl rfl (by simp [go_sem, a.e 20 (d 0 rfl), IntWalk.i64_in ((i : Int) + 1) (by omega)]) rfl,
    fun f s W c d j l m a => opm (a.v 21 (d 1 rfl)), trivial⟩ ?_
      intro f19 s19 W19 hB19 g19 hg19 z19
      have fB19 := hB19.f fB18
      have b19_0 := hB19.b b18_0
      have b19_1 := hB19.b b18_1
      have b19_2 := hB19.b b18_2
      have b19_3 := hB19.b b18_3
      have b19_4 := hB19.b nb18
      have q60' := (q56'.below hB19.below)
      have q61' := (q57'.below hB19.below)
      have q62' := (q58'.below hB19.below)
      have q63' := (q59'.below hB19.below)
      refine wpe ?_
      have k19_1 := kt hg19 1 k17_1
      have k19_2 := kt hg19 2 k17_2
      have k19_3 := kt hg19 3 k17_3
      have k19_4 := kt hg19 4 k17_4
      have k19_5 := kt hg19 5 k17_5
      have k19_6 := kt hg19 6 (hB19.is 2)
      refine then_normal ?_
      exact ⟨_, by omega, g19, rfl, i + 1, n0, (n1 + 1), a0, some ⟨ga16, 0, none⟩, c0, ca16, l0, (l1 ++ [(i : Int)]), rfl, k19_1, k19_2, k19_3, k19_4, k19_5, k19_6.trans (by go_num), fB19, (by omega), b19_0, b19_1, b19_2, b19_3, b19_4, q60', q61', q62', q63', (by omega), lk1.skip (by rw [hkd]; decide), lk2.put hkd, (fun h => by rcases (show 1 ≤ i ∨ i = 0 by omega) with h0 | h0; exact lk3 h0; subst h0; rw [paZ_k0] at hkd; omega), (fun _ => by simp), (fun x y e e' => Ne.symm (nk16 y x e' e)), lk6, (by simp [lk7])⟩
  ·
    have hc8' := hc8; try simp only [ba] at hc8'
    have hiP : i = nP := by omega
    refine wp_exit ?_
    refine then_exit ?_
    refine then_exit ?_
    refine inBlock_at ?_
    refine hK4 _ _ ?_
    refine rw_ 6 [(37, 0), (38, 1), (39, 2), (40, 3), (41, 4), (8, 5)] [[], [0], [1], [2], [3], [4]] (rel [is (.pointer (some ⟨(s1 0), 2, none⟩)), is (.slice ay nb cb), iI ((byAt nb bs 0)), iI (((byAt nb bs 0) % 2)), iI (1 + ((byAt nb bs 0) % 2)), iI (1 + ((byAt nb bs 0) % 2))])
      ⟨fun f s W c d j l m a => opv rfl rfl (by simp [go_sem, a.e 1 k8_1]) rfl,
    fun f s W c d j l m a => opv rfl rfl (by simp [go_sem, a.e 37 (d 0 rfl), cl (bwb b8_0 c) 2]) rfl,
    fun f s W c d j l m a => by have p := bwt fB8 c; exact opc rfl rfl (by simp [go_sem, a.e 38 (d 1 rfl)]) (armByte_any ay nb cb bs 0 W (hT.below p) (by decide)),
    fun f s W c d j l m a => by have hy_ := hT.at 0; have qu_ : (byAt nb bs 0).tmod 2 = ((byAt nb bs 0) % 2) := Int.tmod_eq_emod_of_nonneg hy_.1; have qw_ := IntWalk.i64_in ((byAt nb bs 0) % 2) (by omega); exact opv rfl rfl (by simp [go_sem, a.e 39 (d 2 rfl), qu_, qw_]) rfl,
    fun f s W c d j l m a => opv rfl rfl (by simp [go_sem, a.e 40 (d 3 rfl), IntWalk.i64_in (1 + ((byAt nb bs 0) % 2)) (by omega)]) rfl,
    fun f s W c d j l m a => opm (a.v 41 (d 4 rfl)), trivial⟩ ?_
    intro f20 s20 W20 hB20 g20 hg20 z20
    have fB20 := hB20.f fB8
    have b20_0 := hB20.b b8_0
    have b20_1 := hB20.b b8_1
    have b20_2 := hB20.b b8_2
    have b20_3 := hB20.b b8_3
    have b20_4 := hB20.b b8_4
    have q64' := (q24'.below hB20.below)
    have q65' := (q25'.below hB20.below)
    have q66' := (q26'.below hB20.below)
    have q67' := (q27'.below hB20.below)
    have k20_1 := kt hg20 1 k8_1
    have k20_2 := kt hg20 2 k8_2
    have k20_3 := kt hg20 3 k8_3
    have k20_4 := kt hg20 4 k8_4
    have k20_5 := kt hg20 5 k8_5
    have k20_8 := kt hg20 8 (hB20.is 5)
    have hp0 : 0 < n0 := by have := List.length_pos_iff.2 (lk3 (by omega)); omega
    have hp1 : 0 < n1 := by have := List.length_pos_iff.2 (lk4 (by omega)); omega
    obtain ⟨gq0, ea0, oq0⟩ := OwnN.some' q66' (by omega)
    subst ea0
    have lq0 := oq0.lim
    obtain ⟨gq1, ea1, oq1⟩ := OwnN.some' q67' (by omega)
    subst ea1
    have lq1 := oq1.lim
    have oiP : OwnN 3 1 w.heap.size 0 (iis []) none 0 W20 := ownN_nil
    have oiF : OwnN 3 1 w.heap.size 0 (iis []) none 0 W20 := ownN_nil
    refine wp_seq_k fun K12 hK12 => ?_
    refine wp_seq_k fun K13 hK13 => ?_
    have hy_ := hT.at 0
    rcases (show (byAt nb bs 0) % 2 = 0 ∨ (byAt nb bs 0) % 2 = 1 by omega) with hfl | hfl
    ·
      have kz68 : g20 8 = .int .i64 1 := k20_8.trans (by simp [hfl])
      refine ry 1 [(9, 0)] [[]] (rel [iI 0])
        ⟨fun f s W c d j l m a => opz, trivial⟩ ?_
      intro f21 s21 W21 hB21 g21 hg21 z21
      have fB21 := hB21.f fB20
      have b21_0 := hB21.b b20_0
      have b21_1 := hB21.b b20_1
      have b21_2 := hB21.b b20_2
      have b21_3 := hB21.b b20_3
      have b21_4 := hB21.b b20_4
      have q69' := (q64'.below hB21.below)
      have q70' := (q65'.below hB21.below)
      have q71' := (q66'.below hB21.below)
      have q72' := (q67'.below hB21.below)
      have q73' := (oiP.below hB21.below)
      have q74' := (oiF.below hB21.below)
      refine hK13 _ _ ?_
      have k21_1 := kt hg21 1 k20_1
      have k21_2 := kt hg21 2 k20_2
      have k21_3 := kt hg21 3 k20_3
      have k21_4 := kt hg21 4 k20_4
      have k21_5 := kt hg21 5 k20_5
      have k21_8 := kt hg21 8 kz68
      have k21_9 := kt hg21 9 (hB21.is 0)
      refine wp_block ?_
      refine wp_loop_rounds 6 ?_
      rw [rounds_succ]
      refine wp_seq_k fun K14 hK14 => ?_
      refine rw_ 5 [(42, 0), (43, 1), (44, 2), (45, 3), (46, 4)] [[], [], [1], [2], [0, 3]] (rel [iI 0, iI 1, iI 2, iI 3, iB true])
        ⟨fun f s W c d j l m a => opm (a.v 9 k21_9),
    fun f s W c d j l m a => opm (a.v 8 k21_8),
    fun f s W c d j l m a => opv rfl rfl (by simp [go_sem, a.e 43 (d 1 rfl), IntWalk.i64_in (2) (by omega)]) rfl,
    fun f s W c d j l m a => opv rfl rfl (by simp [go_sem, a.e 44 (d 2 rfl), IntWalk.i64_in (3) (by omega)]) rfl,
    fun f s W c d j l m a => opv rfl rfl (by simp [go_sem, a.e 42 (d 0 rfl), a.e 45 (d 3 rfl)]) rfl, trivial⟩ ?_
      intro f22 s22 W22 hB22 g22 hg22 z22
      have fB22 := hB22.f fB21
      have b22_0 := hB22.b b21_0
      have b22_1 := hB22.b b21_1
      have b22_2 := hB22.b b21_2
      have b22_3 := hB22.b b21_3
      have b22_4 := hB22.b b21_4
      have q75' := (q69'.below hB22.below)
      have q76' := (q70'.below hB22.below)
      have q77' := (q71'.below hB22.below)
      have q78' := (q72'.below hB22.below)
      have q79' := (q73'.below hB22.below)
      have q80' := (q74'.below hB22.below)
      have k22_1 := kt hg22 1 k21_1
      have k22_2 := kt hg22 2 k21_2
      have k22_3 := kt hg22 3 k21_3
      have k22_4 := kt hg22 4 k21_4
      have k22_5 := kt hg22 5 k21_5
      have k22_8 := kt hg22 8 k21_8
      have k22_9 := kt hg22 9 k21_9
      have k22_46 := kt hg22 46 (hB22.is 4)
      refine wp_cond_true ((fr_eval rfl).trans k22_46) ?_
      refine wp_skip ?_
      refine hK14 _ _ ?_
      refine wp_seq_k fun K17 hK17 => ?_
      refine wp_block ?_
      refine rw_ 5 [(49, 0), (50, 1), (51, 2), (52, 3), (10, 4)] [[], [0], [1], [2], [3]] (rel [iI 0, iI 0, is (.pointer (some ⟨(s5 1), 0, none⟩)), is (.slice (some ⟨gq0, 0, none⟩) n0 c0), is (.slice (some ⟨gq0, 0, none⟩) n0 c0)])
        ⟨fun f s W c d j l m a => opm (a.v 9 k22_9),
    fun f s W c d j l m a => by have qw_ := IntWalk.i64_in (0) (by decide); exact opv rfl rfl (by simp [go_sem, a.e 49 (d 0 rfl), qw_]) rfl,
    fun f s W c d j l m a => opv rfl rfl (by simp [go_sem, a.e 5 k22_5, a.e 50 (d 1 rfl)]) rfl,
    fun f s W c d j l m a => opv rfl rfl (by simp [go_sem, a.e 51 (d 2 rfl), cl (bwb b22_4 c) 0]) rfl,
    fun f s W c d j l m a => opm (a.v 52 (d 3 rfl)), trivial⟩ ?_
      intro f23 s23 W23 hB23 g23 hg23 z23
      have fB23 := hB23.f fB22
      have b23_0 := hB23.b b22_0
      have b23_1 := hB23.b b22_1
      have b23_2 := hB23.b b22_2
      have b23_3 := hB23.b b22_3
      have b23_4 := hB23.b b22_4
      have q81' := (q75'.below hB23.below)
      have q82' := (q76'.below hB23.below)
      have q83' := (q77'.below hB23.below)
      have q84' := (q78'.below hB23.below)
      have q85' := (q79'.below hB23.below)
      have q86' := (q80'.below hB23.below)
      have k23_1 := kt hg23 1 k22_1
      have k23_2 := kt hg23 2 k22_2
      have k23_3 := kt hg23 3 k22_3
      have k23_4 := kt hg23 4 k22_4
      have k23_5 := kt hg23 5 k22_5
      have k23_8 := kt hg23 8 k22_8
      have k23_9 := kt hg23 9 k22_9
      have k23_10 := kt hg23 10 (hB23.is 4)
      refine wp_seq_k fun K19 hK19 => ?_
      refine ry 14 [(53, 0), (54, 1), (55, 2), (56, 3), (57, 4), (58, 5), (59, 6), (60, 7), (61, 8), (62, 9), (63, 10), (64, 11), (65, 12), (66, 13), (67, 14), (68, 15)] [[], [0], [], [], [3], [], [5], [3, 4, 5, 6], [], [8], [3, 5, 7, 8, 9], [2, 3, 5, 8, 9, 10], [2, 3, 5, 8, 9, 10, 11], [2, 3, 5, 8, 9, 10, 11, 12], [0, 1, 2, 3, 4, 5, 6, 7, 8, 9, 10, 11, 12, 13], [0, 1, 2, 3, 4, 5, 6, 7, 8, 9, 10, 11, 12, 13, 14], [0, 1, 2, 3, 4, 5, 6, 7, 8, 9, 10, 11, 12, 13, 14, 15]] (rel [is (.pointer (some ⟨(s2 4), 0, none⟩)), is (.slice none 0 0), is (.slice (some ⟨gq0, 0, none⟩) n0 c0), is (.pointer (some ⟨(s1 0), 2, none⟩)), is (.slice ay nb cb), iI 0, iI 1, iI ((byAt nb bs 1)), is (.slice (some ⟨gq0, 0, none⟩) n0 c0), iI ((n0 : Int)), iI (((ixW nb bs 1 n0 : Nat) : Int)), is (.pointer (some ⟨gq0, ixW nb bs 1 n0, none⟩)), iI ((elW l0 nb bs 1)), row 13 1 #[.int .i64 ((elW l0 nb bs 1))] 3])
        ⟨fun f s W c d j l m a => opv rfl rfl (by simp [go_sem, a.e 4 k23_4]) rfl,
    fun f s W c d j l m a => opv rfl rfl (by simp [go_sem, a.e 53 (d 0 rfl), cl (bwb b23_3 c) 0]) rfl,
    fun f s W c d j l m a => opm (a.v 10 k23_10),
    fun f s W c d j l m a => opv rfl rfl (by simp [go_sem, a.e 1 k23_1]) rfl,
    fun f s W c d j l m a => opv rfl rfl (by simp [go_sem, a.e 56 (d 3 rfl), cl (bwb b23_0 c) 2]) rfl,
    fun f s W c d j l m a => opm (a.v 9 k23_9),
    fun f s W c d j l m a => opv rfl rfl (by simp [go_sem, a.e 58 (d 5 rfl), IntWalk.i64_in (1) (by omega)]) rfl,
    fun f s W c d j l m a => by have p := bwt fB23 c; exact opc rfl rfl (by simp [go_sem, a.e 57 (d 4 rfl), a.e 59 (d 6 rfl)]) (armByte_any ay nb cb bs 1 W (hT.below p) (by decide)),
    fun f s W c d j l m a => opm (a.v 10 k23_10),
    fun f s W c d j l m a => opv rfl rfl (by simp [go_sem, a.e 61 (d 8 rfl)]) rfl,
    fun f s W c d j l m a => by have qu_ : (byAt nb bs 1).tmod (n0 : Int) = ((ixW nb bs 1 n0 : Nat) : Int) := ix_mod hT 1 n0; have ql_ := ix_lt (n := nb) (bs := bs) (k := 1) hp0; have qw_ := IntWalk.i64_in ((ixW nb bs 1 n0 : Nat) : Int) (by omega); have qz_ : ¬ (n0 : Int) = 0 := (by omega); have qn_ : ¬ n0 = 0 := (by omega); exact opv rfl rfl (by simp [go_sem, a.e 60 (d 7 rfl), a.e 62 (d 9 rfl), qu_, qw_, qz_, qn_]) rfl,
    fun f s W c d j l m a => by have ql_ := ix_lt (n := nb) (bs := bs) (k := 1) hp0; have li_ := Nat.not_le.2 ql_; have li2_ : ((ixW nb bs 1 n0 : Nat) : Int) < (n0 : Int) := (by omega); exact opv rfl rfl (by simp [go_sem, a.e 55 (d 2 rfl), a.e 63 (d 10 rfl), ql_, li_, li2_]) rfl,
    fun f s W c d j l m a => by have cu_ : W.cell? ⟨gq0, ixW nb bs 1 n0, none⟩ = some (.int .i64 (elW l0 nb bs 1)) := elW_cell (q83'.below c) lk6 hp0; exact opv rfl rfl (by simp [go_sem, a.e 64 (d 11 rfl), cu_]) rfl,
    fun f s W c d j l m a => opr rfl rfl (by simp [go_sem, a.e 65 (d 12 rfl)]), trivial⟩ ?_
      intro f24 s24 W24 hB24 g24 hg24 z24
      have fB24 := hB24.f fB23
      have b24_0 := hB24.b b23_0
      have b24_1 := hB24.b b23_1
      have b24_2 := hB24.b b23_2
      have b24_3 := hB24.b b23_3
      have b24_4 := hB24.b b23_4
      have q87' := (q81'.below hB24.below)
      have q88' := (q82'.below hB24.below)
      have q89' := (q83'.below hB24.below)
      have q90' := (q84'.below hB24.below)
      have q91' := (q85'.below hB24.below)
      have q92' := (q86'.below hB24.below)
      obtain ⟨r24_13, br24_13⟩ := hB24.is 13
      have lr24_13 := hB24.lr 13 br24_13
      have k24_54 := kt hg24 54 (hB24.is 1)
      have k24_66 := kt hg24 66 r24_13
      obtain ⟨ga25, ca25, W25, ra25, ow25, ot25, z25, gg25, fB25⟩ := growN_tail 39 39 3 1 8 _ (by kernel_rfl) infoI rfl (iis [(elW l0 nb bs 1)]) 1 (off := 0) (k := 1) (c' := 1) [.int .i64 ((elW l0 nb bs 1))] fB24 q91' rfl rfl rfl rfl (cells_at br24_13) (by omega)
      refine tail_value2 (o := _) rfl rfl rfl (run_appendOp (fr_ev k24_54) (fr_ev k24_66) ra25) ?_
      have b25_0 := ot25 _ _ (ownN_ne q91' b24_0) b24_0
      have b25_1 := ot25 _ _ (ownN_ne q91' b24_1) b24_1
      have b25_2 := ot25 _ _ (ownN_ne q91' b24_2) b24_2
      have b25_3 := ot25 _ _ (ownN_ne q91' b24_3) b24_3
      have b25_4 := ot25 _ _ (ownN_ne q91' b24_4) b24_4
      have gn25 : ga25 = W24.heap.size := gg25.resolve_left nofun
      have lw25 : W20.heap.size ≤ ga25 := by omega
      have q93' := OwnN.otherN q87' q91' ot25 z25
      have q94' := OwnN.otherN q88' q91' ot25 z25
      have q95' := OwnN.otherG q89' ot25 z25 (fun x y _ e => by cases e) q91'
      have q96' := OwnN.otherG q90' ot25 z25 (fun x y _ e => by cases e) q91'
      have q97' := OwnN.otherG q92' ot25 z25 (fun x y e _ => by cases e) q91'
      have on25 : OwnN 3 1 w.heap.size 1 (iis [(elW l0 nb bs 1)]) (some ⟨ga25, 0, none⟩) ca25 W25 := .inr ⟨_, rfl, ow25⟩
      generalize hg25 : upd g24 67 (.slice (some ⟨ga25, 0, none⟩) 1 ca25) = g25
      have k25_4 := ku hg25 4 (kt hg24 4 k23_4)
      refine tail_value (o := _) rfl rfl rfl (v := .pointer (some ⟨(s2 4), 0, none⟩)) (by simp [go_sem, frv 87 k25_4]) ?_
      generalize hg26 : upd g25 68 (.pointer (some ⟨(s2 4), 0, none⟩)) = g26
      have k26_1 := ku hg26 1 (ku hg25 1 (kt hg24 1 k23_1))
      have k26_2 := ku hg26 2 (ku hg25 2 (kt hg24 2 k23_2))
      have k26_3 := ku hg26 3 (ku hg25 3 (kt hg24 3 k23_3))
      have k26_4 := ku hg26 4 k25_4
      have k26_5 := ku hg26 5 (ku hg25 5 (kt hg24 5 k23_5))
      have k26_8 := ku hg26 8 (ku hg25 8 (kt hg24 8 k23_8))
      have k26_9 := ku hg26 9 (ku hg25 9 (kt hg24 9 k23_9))
      have k26_67 := ku hg26 67 (kt hg25 67 (upd_same _ _ _))
      have k26_68 := kt hg26 68 (upd_same _ _ _)
      obtain ⟨W27, hW27⟩ : ∃ W', W' = W25.setRow (s2 4) #[.slice (some ⟨ga25, 0, none⟩) 1 ca25, .slice none 0 0] := ⟨_, rfl⟩
      refine tsk (o := _) rfl ⟨rfl, rfl⟩ (run_seg hW27 (fr_ev k26_68) (fr_ev k26_67) b25_3 rfl rfl rfl rfl) ?_
      obtain ⟨fB27, nb27, ot27, z27⟩ := sgf hW27 fB25 b25_3 (by omega)
      clear hW27
      have b27_0 := ot27 _ _ (by omega) b25_0
      have b27_1 := ot27 _ _ (by omega) b25_1
      have b27_2 := ot27 _ _ (by omega) b25_2
      have b27_4 := ot27 _ _ (by omega) b25_4
      have q98' := q93'.other ot27 (ownN_ne q93' b25_3) z27
      have q99' := q94'.other ot27 (ownN_ne q94' b25_3) z27
      have q100' := q95'.other ot27 (ownN_ne q95' b25_3) z27
      have q101' := q96'.other ot27 (ownN_ne q96' b25_3) z27
      have q102' := q97'.other ot27 (ownN_ne q97' b25_3) z27
      have q103' := on25.other ot27 (ownN_ne on25 b25_3) z27
      refine wpe ?_
      refine hK19 _ _ ?_
      refine rw_ 3 [(69, 0), (70, 1), (71, 2)] [[], [0], [1]] (rel [iI 0, iI 0, iB false])
        ⟨fun f s W c d j l m a => opm (a.v 9 k26_9),
    fun f s W c d j l m a => by have qw_ := IntWalk.i64_in (0) (by decide); exact opv rfl rfl (by simp [go_sem, a.e 69 (d 0 rfl), qw_]) rfl,
    fun f s W c d j l m a => opv rfl rfl (by simp [go_sem, a.e 70 (d 1 rfl)]) rfl, trivial⟩ ?_
      intro f28 s28 W28 hB28 g28 hg28 z28
      have fB28 := hB28.f fB27
      have b28_0 := hB28.b b27_0
      have b28_1 := hB28.b b27_1
      have b28_2 := hB28.b b27_2
      have b28_3 := hB28.b nb27
      have b28_4 := hB28.b b27_4
      have q104' := (q98'.below hB28.below)
      have q105' := (q99'.below hB28.below)
      have q106' := (q100'.below hB28.below)
      have q107' := (q101'.below hB28.below)
      have q108' := (q102'.below hB28.below)
      have q109' := (q103'.below hB28.below)
      have k28_1 := kt hg28 1 k26_1
      have k28_2 := kt hg28 2 k26_2
      have k28_3 := kt hg28 3 k26_3
      have k28_4 := kt hg28 4 k26_4
      have k28_5 := kt hg28 5 k26_5
      have k28_8 := kt hg28 8 k26_8
      have k28_9 := kt hg28 9 k26_9
      have k28_71 := kt hg28 71 (hB28.is 2)
      refine wp_cond_false ((fr_eval rfl).trans k28_71) ?_
      refine wp_skip ?_
      refine ibn ?_
      refine hK17 _ _ ?_
      refine ry 3 [(47, 0), (48, 1), (9, 2)] [[], [0], [0, 1]] (rel [iI 0, iI 1, iI 1])
        ⟨fun f s W c d j l m a => opm (a.v 9 ((l 2 9 rfl rfl).trans k28_9)),
    fun f s W c d j l m a => opv rfl rfl (by simp [go_sem, a.e 47 (d 0 rfl), IntWalk.i64_in (1) (by omega)]) rfl,
    fun f s W c d j l m a => opm (a.v 48 (d 1 rfl)), trivial⟩ ?_
      intro f29 s29 W29 hB29 g29 hg29 z29
      have fB29 := hB29.f fB28
      have b29_0 := hB29.b b28_0
      have b29_1 := hB29.b b28_1
      have b29_2 := hB29.b b28_2
      have b29_3 := hB29.b b28_3
      have b29_4 := hB29.b b28_4
      have q110' := (q104'.below hB29.below)
      have q111' := (q105'.below hB29.below)
      have q112' := (q106'.below hB29.below)
      have q113' := (q107'.below hB29.below)
      have q114' := (q108'.below hB29.below)
      have q115' := (q109'.below hB29.below)
      refine wpe ?_
      have k29_1 := kt hg29 1 k28_1
      have k29_2 := kt hg29 2 k28_2
      have k29_3 := kt hg29 3 k28_3
      have k29_4 := kt hg29 4 k28_4
      have k29_5 := kt hg29 5 k28_5
      have k29_8 := kt hg29 8 k28_8
      have k29_9 := kt hg29 9 (hB29.is 2)
      refine then_normal ?_
      rw [rounds_succ]
      refine wp_seq_k fun K22 hK22 => ?_
      refine rw_ 5 [(42, 0), (43, 1), (44, 2), (45, 3), (46, 4)] [[], [], [1], [2], [0, 3]] (rel [iI 1, iI 1, iI 2, iI 3, iB true])
        ⟨fun f s W c d j l m a => opm (a.v 9 k29_9),
    fun f s W c d j l m a => opm (a.v 8 k29_8),
    fun f s W c d j l m a => opv rfl rfl (by simp [go_sem, a.e 43 (d 1 rfl), IntWalk.i64_in (2) (by omega)]) rfl,
    fun f s W c d j l m a => opv rfl rfl (by simp [go_sem, a.e 44 (d 2 rfl), IntWalk.i64_in (3) (by omega)]) rfl,
    fun f s W c d j l m a => opv rfl rfl (by simp [go_sem, a.e 42 (d 0 rfl), a.e 45 (d 3 rfl)]) rfl, trivial⟩ ?_
      intro f30 s30 W30 hB30 g30 hg30 z30
      have fB30 := hB30.f fB29
      have b30_0 := hB30.b b29_0
      have b30_1 := hB30.b b29_1
      have b30_2 := hB30.b b29_2
      have b30_3 := hB30.b b29_3
      have b30_4 := hB30.b b29_4
      have q116' := (q110'.below hB30.below)
      have q117' := (q111'.below hB30.below)
      have q118' := (q112'.below hB30.below)
      have q119' := (q113'.below hB30.below)
      have q120' := (q114'.below hB30.below)
      have q121' := (q115'.below hB30.below)
      have k30_1 := kt hg30 1 k29_1
      have k30_2 := kt hg30 2 k29_2
      have k30_3 := kt hg30 3 k29_3
      have k30_4 := kt hg30 4 k29_4
      have k30_5 := kt hg30 5 k29_5
      have k30_8 := kt hg30 8 k29_8
      have k30_9 := kt hg30 9 k29_9
      have k30_46 := kt hg30 46 (hB30.is 4)
      refine wp_cond_true ((fr_eval rfl).trans k30_46) ?_
      refine wp_skip ?_
      refine hK22 _ _ ?_
      refine wp_seq_k fun K25 hK25 => ?_
      refine wp_block ?_
      refine rw_ 5 [(49, 0), (50, 1), (51, 2), (52, 3), (10, 4)] [[], [0], [1], [2], [3]] (rel [iI 1, iI 1, is (.pointer (some ⟨(s5 1), 1, none⟩)), is (.slice (some ⟨gq1, 0, none⟩) n1 c1), is (.slice (some ⟨gq1, 0, none⟩) n1 c1)])
        ⟨fun f s W c d j l m a => opm (a.v 9 k30_9),
    fun f s W c d j l m a => by have qw_ := IntWalk.i64_in (1) (by decide); exact opv rfl rfl (by simp [go_sem, a.e 49 (d 0 rfl), qw_]) rfl,
    fun f s W c d j l m a => opv rfl rfl (by simp [go_sem, a.e 5 k30_5, a.e 50 (d 1 rfl)]) rfl,
    fun f s W c d j l m a => opv rfl rfl (by simp [go_sem, a.e 51 (d 2 rfl), cl (bwb b30_4 c) 1]) rfl,
    fun f s W c d j l m a => opm (a.v 52 (d 3 rfl)), trivial⟩ ?_
      intro f31 s31 W31 hB31 g31 hg31 z31
      have fB31 := hB31.f fB30
      have b31_0 := hB31.b b30_0
      have b31_1 := hB31.b b30_1
      have b31_2 := hB31.b b30_2
      have b31_3 := hB31.b b30_3
      have b31_4 := hB31.b b30_4
      have q122' := (q116'.below hB31.below)
      have q123' := (q117'.below hB31.below)
      have q124' := (q118'.below hB31.below)
      have q125' := (q119'.below hB31.below)
      have q126' := (q120'.below hB31.below)
      have q127' := (q121'.below hB31.below)
      have k31_1 := kt hg31 1 k30_1
      have k31_2 := kt hg31 2 k30_2
      have k31_3 := kt hg31 3 k30_3
      have k31_4 := kt hg31 4 k30_4
      have k31_5 := kt hg31 5 k30_5
      have k31_8 := kt hg31 8 k30_8
      have k31_9 := kt hg31 9 k30_9
      have k31_10 := kt hg31 10 (hB31.is 4)
      refine wp_seq_k fun K27 hK27 => ?_
      refine ry 14 [(53, 0), (54, 1), (55, 2), (56, 3), (57, 4), (58, 5), (59, 6), (60, 7), (61, 8), (62, 9), (63, 10), (64, 11), (65, 12), (66, 13), (67, 14), (68, 15)] [[], [0], [], [], [3], [], [5], [3, 4, 5, 6], [], [8], [3, 5, 7, 8, 9], [2, 3, 5, 8, 9, 10], [2, 3, 5, 8, 9, 10, 11], [2, 3, 5, 8, 9, 10, 11, 12], [0, 1, 2, 3, 4, 5, 6, 7, 8, 9, 10, 11, 12, 13], [0, 1, 2, 3, 4, 5, 6, 7, 8, 9, 10, 11, 12, 13, 14], [0, 1, 2, 3, 4, 5, 6, 7, 8, 9, 10, 11, 12, 13, 14, 15]] (rel [is (.pointer (some ⟨(s2 4), 0, none⟩)), is (.slice (some ⟨ga25, 0, none⟩) 1 ca25), is (.slice (some ⟨gq1, 0, none⟩) n1 c1), is (.pointer (some ⟨(s1 0), 2, none⟩)), is (.slice ay nb cb), iI 1, iI 2, iI ((byAt nb bs 2)), is (.slice (some ⟨gq1, 0, none⟩) n1 c1), iI ((n1 : Int)), iI (((ixW nb bs 2 n1 : Nat) : Int)), is (.pointer (some ⟨gq1, ixW nb bs 2 n1, none⟩)), iI ((elW l1 nb bs 2)), row 13 1 #[.int .i64 ((elW l1 nb bs 2))] 3])
        ⟨fun f s W c d j l m a => opv rfl rfl (by simp [go_sem, a.e 4 k31_4]) rfl,
    fun f s W c d j l m a => opv rfl rfl (by simp [go_sem, a.e 53 (d 0 rfl), cl (bwb b31_3 c) 0]) rfl,
    fun f s W c d j l m a => opm (a.v 10 k31_10),
    fun f s W c d j l m a => opv rfl rfl (by simp [go_sem, a.e 1 k31_1]) rfl,
    fun f s W c d j l m a => opv rfl rfl (by simp [go_sem, a.e 56 (d 3 rfl), cl (bwb b31_0 c) 2]) rfl,
    fun f s W c d j l m a => opm (a.v 9 k31_9),
    fun f s W c d j l m a => opv rfl rfl (by simp [go_sem, a.e 58 (d 5 rfl), IntWalk.i64_in (2) (by omega)]) rfl,
    fun f s W c d j l m a => by have p := bwt fB31 c; exact opc rfl rfl (by simp [go_sem, a.e 57 (d 4 rfl), a.e 59 (d 6 rfl)]) (armByte_any ay nb cb bs 2 W (hT.below p) (by decide)),
    fun f s W c d j l m a => opm (a.v 10 k31_10),
    fun f s W c d j l m a => opv rfl rfl (by simp [go_sem, a.e 61 (d 8 rfl)]) rfl,
    fun f s W c d j l m a => by have qu_ : (byAt nb bs 2).tmod (n1 : Int) = ((ixW nb bs 2 n1 : Nat) : Int) := ix_mod hT 2 n1; have ql_ := ix_lt (n := nb) (bs := bs) (k := 2) hp1; have qw_ := IntWalk.i64_in ((ixW nb bs 2 n1 : Nat) : Int) (by omega); have qz_ : ¬ (n1 : Int) = 0 := (by omega); have qn_ : ¬ n1 = 0 := (by omega); exact opv rfl rfl (by simp [go_sem, a.e 60 (d 7 rfl), a.e 62 (d 9 rfl), qu_, qw_, qz_, qn_]) rfl,
    fun f s W c d j l m a => by have ql_ := ix_lt (n := nb) (bs := bs) (k := 2) hp1; have li_ := Nat.not_le.2 ql_; have li2_ : ((ixW nb bs 2 n1 : Nat) : Int) < (n1 : Int) := (by omega); exact opv rfl rfl (by simp [go_sem, a.e 55 (d 2 rfl), a.e 63 (d 10 rfl), ql_, li_, li2_]) rfl,
    fun f s W c d j l m a => by have cu_ : W.cell? ⟨gq1, ixW nb bs 2 n1, none⟩ = some (.int .i64 (elW l1 nb bs 2)) := elW_cell (q125'.below c) lk7 hp1; exact opv rfl rfl (by simp [go_sem, a.e 64 (d 11 rfl), cu_]) rfl,
    fun f s W c d j l m a => opr rfl rfl (by simp [go_sem, a.e 65 (d 12 rfl)]), trivial⟩ ?_
      intro f32 s32 W32 hB32 g32 hg32 z32
      have fB32 := hB32.f fB31
      have b32_0 := hB32.b b31_0
      have b32_1 := hB32.b b31_1
      have b32_2 := hB32.b b31_2
      have b32_3 := hB32.b b31_3
      have b32_4 := hB32.b b31_4
      have q128' := (q122'.below hB32.below)
      have q129' := (q123'.below hB32.below)
      have q130' := (q124'.below hB32.below)
      have q131' := (q125'.below hB32.below)
      have q132' := (q126'.below hB32.below)
      have q133' := (q127'.below hB32.below)
      obtain ⟨r32_13, br32_13⟩ := hB32.is 13
      have lr32_13 := hB32.lr 13 br32_13
      have k32_54 := kt hg32 54 (hB32.is 1)
      have k32_66 := kt hg32 66 r32_13
      obtain ⟨ga33, ca33, W33, ra33, ow33, ot33, z33, gg33, fB33⟩ := growN_tail 39 39 3 1 8 _ (by kernel_rfl) infoI rfl (iis [(elW l0 nb bs 1), (elW l1 nb bs 2)]) 2 (off := 0) (k := 1) (c' := 1) [.int .i64 ((elW l1 nb bs 2))] fB32 q133' rfl rfl rfl rfl (cells_at br32_13) (by omega)
      refine tail_value2 (o := _) rfl rfl rfl (run_appendOp (fr_ev k32_54) (fr_ev k32_66) ra33) ?_
      have b33_0 := ot33 _ _ (ownN_ne q133' b32_0) b32_0
      have b33_1 := ot33 _ _ (ownN_ne q133' b32_1) b32_1
      have b33_2 := ot33 _ _ (ownN_ne q133' b32_2) b32_2
      have b33_3 := ot33 _ _ (ownN_ne q133' b32_3) b32_3
      have b33_4 := ot33 _ _ (ownN_ne q133' b32_4) b32_4
      have gn33 : ga33 = ga25 ∨ ga33 = W32.heap.size := gg33.imp (fun e => by cases e; rfl) id
      have lw33 : W20.heap.size ≤ ga33 := by omega
      have q134' := OwnN.otherN q128' q133' ot33 z33
      have q135' := OwnN.otherN q129' q133' ot33 z33
      have q136' := OwnN.otherG q130' ot33 z33 (fun x y e e' => by cases e; cases e'; omega) q133'
      have q137' := OwnN.otherG q131' ot33 z33 (fun x y e e' => by cases e; cases e'; omega) q133'
      have q138' := OwnN.otherG q132' ot33 z33 (fun x y e _ => by cases e) q133'
      have on33 : OwnN 3 1 w.heap.size 2 (iis [(elW l0 nb bs 1), (elW l1 nb bs 2)]) (some ⟨ga33, 0, none⟩) ca33 W33 := .inr ⟨_, rfl, ow33⟩
      generalize hg33 : upd g32 67 (.slice (some ⟨ga33, 0, none⟩) 2 ca33) = g33
      have k33_4 := ku hg33 4 (kt hg32 4 k31_4)
      refine tail_value (o := _) rfl rfl rfl (v := .pointer (some ⟨(s2 4), 0, none⟩)) (by simp [go_sem, frv 87 k33_4]) ?_
      generalize hg34 : upd g33 68 (.pointer (some ⟨(s2 4), 0, none⟩)) = g34
      have k34_1 := ku hg34 1 (ku hg33 1 (kt hg32 1 k31_1))
      have k34_2 := ku hg34 2 (ku hg33 2 (kt hg32 2 k31_2))
      have k34_3 := ku hg34 3 (ku hg33 3 (kt hg32 3 k31_3))
      have k34_4 := ku hg34 4 k33_4
      have k34_5 := ku hg34 5 (ku hg33 5 (kt hg32 5 k31_5))
      have k34_8 := ku hg34 8 (ku hg33 8 (kt hg32 8 k31_8))
      have k34_9 := ku hg34 9 (ku hg33 9 (kt hg32 9 k31_9))
      have k34_67 := ku hg34 67 (kt hg33 67 (upd_same _ _ _))
      have k34_68 := kt hg34 68 (upd_same _ _ _)
      obtain ⟨W35, hW35⟩ : ∃ W', W' = W33.setRow (s2 4) #[.slice (some ⟨ga33, 0, none⟩) 2 ca33, .slice none 0 0] := ⟨_, rfl⟩
      refine tsk (o := _) rfl ⟨rfl, rfl⟩ (run_seg hW35 (fr_ev k34_68) (fr_ev k34_67) b33_3 rfl rfl rfl rfl) ?_
      obtain ⟨fB35, nb35, ot35, z35⟩ := sgf hW35 fB33 b33_3 (by omega)
      clear hW35
      have b35_0 := ot35 _ _ (by omega) b33_0
      have b35_1 := ot35 _ _ (by omega) b33_1
      have b35_2 := ot35 _ _ (by omega) b33_2
      have b35_4 := ot35 _ _ (by omega) b33_4
      have q139' := q134'.other ot35 (ownN_ne q134' b33_3) z35
      have q140' := q135'.other ot35 (ownN_ne q135' b33_3) z35
      have q141' := q136'.other ot35 (ownN_ne q136' b33_3) z35
      have q142' := q137'.other ot35 (ownN_ne q137' b33_3) z35
      have q143' := q138'.other ot35 (ownN_ne q138' b33_3) z35
      have q144' := on33.other ot35 (ownN_ne on33 b33_3) z35
      refine wpe ?_
      refine hK27 _ _ ?_
      refine rw_ 3 [(69, 0), (70, 1), (71, 2)] [[], [0], [1]] (rel [iI 1, iI 1, iB true])
        ⟨fun f s W c d j l m a => opm (a.v 9 k34_9),
    fun f s W c d j l m a => by have qw_ := IntWalk.i64_in (1) (by decide); exact opv rfl rfl (by simp [go_sem, a.e 69 (d 0 rfl), qw_]) rfl,
    fun f s W c d j l m a => opv rfl rfl (by simp [go_sem, a.e 70 (d 1 rfl)]) rfl, trivial⟩ ?_
      intro f36 s36 W36 hB36 g36 hg36 z36
      have fB36 := hB36.f fB35
      have b36_0 := hB36.b b35_0
      have b36_1 := hB36.b b35_1
      have b36_2 := hB36.b b35_2
      have b36_3 := hB36.b nb35
      have b36_4 := hB36.b b35_4
      have q145' := (q139'.below hB36.below)
      have q146' := (q140'.below hB36.below)
      have q147' := (q141'.below hB36.below)
      have q148' := (q142'.below hB36.below)
      have q149' := (q143'.below hB36.below)
      have q150' := (q144'.below hB36.below)
      have k36_1 := kt hg36 1 k34_1
      have k36_2 := kt hg36 2 k34_2
      have k36_3 := kt hg36 3 k34_3
      have k36_4 := kt hg36 4 k34_4
      have k36_5 := kt hg36 5 k34_5
      have k36_8 := kt hg36 8 k34_8
      have k36_9 := kt hg36 9 k34_9
      have k36_71 := kt hg36 71 (hB36.is 2)
      refine wp_cond_true ((fr_eval rfl).trans k36_71) ?_
      refine ry 12 [(72, 0), (73, 1), (74, 2), (75, 3), (76, 4), (77, 5), (78, 6), (79, 7), (80, 8), (81, 9), (82, 10), (83, 11), (84, 12), (85, 13)] [[], [0], [], [2], [], [4], [2, 3, 4, 5], [], [7], [7, 8], [2, 4, 6, 7, 8, 9], [2, 4, 7, 8, 9, 10], [0, 1, 2, 3, 4, 5, 6, 7, 8, 9, 10, 11], [0, 1, 2, 3, 4, 5, 6, 7, 8, 9, 10, 11, 12], [0, 1, 2, 3, 4, 5, 6, 7, 8, 9, 10, 11, 12, 13]] (rel [is (.pointer (some ⟨(s2 4), 1, none⟩)), is (.slice none 0 0), is (.pointer (some ⟨(s1 0), 2, none⟩)), is (.slice ay nb cb), iI 1, iI 7, iI ((byAt nb bs 7)), is (.pointer (some ⟨(s2 3), 1, none⟩)), is (.slice (some ⟨g2', 0, none⟩) nF c4'), iI ((nF : Int)), iI (((ixW nb bs 7 nF : Nat) : Int)), row 11 1 #[.int .i64 (((ixW nb bs 7 nF : Nat) : Int))] 3])
        ⟨fun f s W c d j l m a => opv rfl rfl (by simp [go_sem, a.e 4 k36_4]) rfl,
    fun f s W c d j l m a => opv rfl rfl (by simp [go_sem, a.e 72 (d 0 rfl), cl (bwb b36_3 c) 1]) rfl,
    fun f s W c d j l m a => opv rfl rfl (by simp [go_sem, a.e 1 k36_1]) rfl,
    fun f s W c d j l m a => opv rfl rfl (by simp [go_sem, a.e 74 (d 2 rfl), cl (bwb b36_0 c) 2]) rfl,
    fun f s W c d j l m a => opm (a.v 9 k36_9),
    fun f s W c d j l m a => opv rfl rfl (by simp [go_sem, a.e 76 (d 4 rfl), IntWalk.i64_in (7) (by omega)]) rfl,
    fun f s W c d j l m a => by have p := bwt fB36 c; exact opc rfl rfl (by simp [go_sem, a.e 75 (d 3 rfl), a.e 77 (d 5 rfl)]) (armByte_any ay nb cb bs 7 W (hT.below p) (by decide)),
    fun f s W c d j l m a => opv rfl rfl (by simp [go_sem, a.e 3 k36_3]) rfl,
    fun f s W c d j l m a => opv rfl rfl (by simp [go_sem, a.e 79 (d 7 rfl), cl (bwb b36_2 c) 1]) rfl,
    fun f s W c d j l m a => opv rfl rfl (by simp [go_sem, a.e 80 (d 8 rfl)]) rfl,
    fun f s W c d j l m a => by have qu_ : (byAt nb bs 7).tmod (nF : Int) = ((ixW nb bs 7 nF : Nat) : Int) := ix_mod hT 7 nF; have ql_ := ix_lt (n := nb) (bs := bs) (k := 7) hpF; have qw_ := IntWalk.i64_in ((ixW nb bs 7 nF : Nat) : Int) (by omega); have qz_ : ¬ (nF : Int) = 0 := (by omega); have qn_ : ¬ nF = 0 := (by omega); exact opv rfl rfl (by simp [go_sem, a.e 78 (d 6 rfl), a.e 81 (d 9 rfl), qu_, qw_, qz_, qn_]) rfl,
    fun f s W c d j l m a => opr rfl rfl (by simp [go_sem, a.e 82 (d 10 rfl)]), trivial⟩ ?_
      intro f37 s37 W37 hB37 g37 hg37 z37
      have fB37 := hB37.f fB36
      have b37_0 := hB37.b b36_0
      have b37_1 := hB37.b b36_1
      have b37_3 := hB37.b b36_3
      have b37_4 := hB37.b b36_4
      have q151' := (q145'.below hB37.below)
      have q152' := (q146'.below hB37.below)
      have q153' := (q147'.below hB37.below)
      have q154' := (q148'.below hB37.below)
      have q155' := (q149'.below hB37.below)
      have q156' := (q150'.below hB37.below)
      obtain ⟨r37_11, br37_11⟩ := hB37.is 11
      have lr37_11 := hB37.lr 11 br37_11
      have k37_73 := kt hg37 73 (hB37.is 1)
      have k37_83 := kt hg37 83 r37_11
      obtain ⟨ga38, ca38, W38, ra38, ow38, ot38, z38, gg38, fB38⟩ := growN_tail 39 39 3 1 8 _ (by kernel_rfl) infoI rfl (iis [((ixW nb bs 7 nF : Nat) : Int)]) 1 (off := 0) (k := 1) (c' := 1) [.int .i64 (((ixW nb bs 7 nF : Nat) : Int))] fB37 q155' rfl rfl rfl rfl (cells_at br37_11) (by omega)
      refine tail_value2 (o := _) rfl rfl rfl (run_appendOp (fr_ev k37_73) (fr_ev k37_83) ra38) ?_
      have b38_0 := ot38 _ _ (ownN_ne q155' b37_0) b37_0
      have b38_1 := ot38 _ _ (ownN_ne q155' b37_1) b37_1
      have b38_3 := ot38 _ _ (ownN_ne q155' b37_3) b37_3
      have b38_4 := ot38 _ _ (ownN_ne q155' b37_4) b37_4
      have gn38 : ga38 = W37.heap.size := gg38.resolve_left nofun
      have lw38 : W20.heap.size ≤ ga38 := by omega
      have q157' := OwnN.otherN q151' q155' ot38 z38
      have q158' := OwnN.otherN q152' q155' ot38 z38
      have q159' := OwnN.otherG q153' ot38 z38 (fun x y _ e => by cases e) q155'
      have q160' := OwnN.otherG q154' ot38 z38 (fun x y _ e => by cases e) q155'
      have q161' := OwnN.otherG q156' ot38 z38 (fun x y _ e => by cases e) q155'
      have nr38 : ga38 ≠ ga33 := by have := (OwnN.lim q156' _ rfl).2; omega
      have on38 : OwnN 3 1 w.heap.size 1 (iis [((ixW nb bs 7 nF : Nat) : Int)]) (some ⟨ga38, 0, none⟩) ca38 W38 := .inr ⟨_, rfl, ow38⟩
      generalize hg38 : upd g37 84 (.slice (some ⟨ga38, 0, none⟩) 1 ca38) = g38
      have k38_4 := ku hg38 4 (kt hg37 4 k36_4)
      refine tail_value (o := _) rfl rfl rfl (v := .pointer (some ⟨(s2 4), 1, none⟩)) (by simp [go_sem, frv 87 k38_4]) ?_
      generalize hg39 : upd g38 85 (.pointer (some ⟨(s2 4), 1, none⟩)) = g39
      have k39_1 := ku hg39 1 (ku hg38 1 (kt hg37 1 k36_1))
      have k39_2 := ku hg39 2 (ku hg38 2 (kt hg37 2 k36_2))
      have k39_4 := ku hg39 4 k38_4
      have k39_5 := ku hg39 5 (ku hg38 5 (kt hg37 5 k36_5))
      have k39_8 := ku hg39 8 (ku hg38 8 (kt hg37 8 k36_8))
      have k39_9 := ku hg39 9 (ku hg38 9 (kt hg37 9 k36_9))
      have k39_84 := ku hg39 84 (kt hg38 84 (upd_same _ _ _))
      have k39_85 := kt hg39 85 (upd_same _ _ _)
      obtain ⟨W40, hW40⟩ : ∃ W', W' = W38.setRow (s2 4) #[.slice (some ⟨ga33, 0, none⟩) 2 ca33, .slice (some ⟨ga38, 0, none⟩) 1 ca38] := ⟨_, rfl⟩
      refine tsk (o := _) rfl ⟨rfl, rfl⟩ (run_seg hW40 (fr_ev k39_85) (fr_ev k39_84) b38_3 rfl rfl rfl rfl) ?_
      obtain ⟨fB40, nb40, ot40, z40⟩ := sgf hW40 fB38 b38_3 (by omega)
      clear hW40
      have b40_0 := ot40 _ _ (by omega) b38_0
      have b40_1 := ot40 _ _ (by omega) b38_1
      have b40_4 := ot40 _ _ (by omega) b38_4
      have q162' := q157'.other ot40 (ownN_ne q157' b38_3) z40
      have q163' := q158'.other ot40 (ownN_ne q158' b38_3) z40
      have q164' := q159'.other ot40 (ownN_ne q159' b38_3) z40
      have q165' := q160'.other ot40 (ownN_ne q160' b38_3) z40
      have q166' := q161'.other ot40 (ownN_ne q161' b38_3) z40
      have q167' := on38.other ot40 (ownN_ne on38 b38_3) z40
      refine wpe ?_
      refine ibn ?_
      refine hK25 _ _ ?_
      refine ry 3 [(47, 0), (48, 1), (9, 2)] [[], [0], [0, 1]] (rel [iI 1, iI 2, iI 2])
        ⟨fun f s W c d j l m a => opm (a.v 9 ((l 2 9 rfl rfl).trans k39_9)),
    fun f s W c d j l m a => opv rfl rfl (by simp [go_sem, a.e 47 (d 0 rfl), IntWalk.i64_in (2) (by omega)]) rfl,
    fun f s W c d j l m a => opm (a.v 48 (d 1 rfl)), trivial⟩ ?_
      intro f41 s41 W41 hB41 g41 hg41 z41
      have fB41 := hB41.f fB40
      have b41_0 := hB41.b b40_0
      have b41_1 := hB41.b b40_1
      have b41_3 := hB41.b nb40
      have b41_4 := hB41.b b40_4
      have q168' := (q162'.below hB41.below)
      have q169' := (q163'.below hB41.below)
      have q170' := (q164'.below hB41.below)
      have q171' := (q165'.below hB41.below)
      have q172' := (q166'.below hB41.below)
      have q173' := (q167'.below hB41.below)
      refine wpe ?_
      have k41_1 := kt hg41 1 k39_1
      have k41_2 := kt hg41 2 k39_2
      have k41_4 := kt hg41 4 k39_4
      have k41_5 := kt hg41 5 k39_5
      have k41_8 := kt hg41 8 k39_8
      have k41_9 := kt hg41 9 (hB41.is 2)
      refine then_normal ?_
      rw [rounds_succ]
      refine wp_seq_k fun K30 hK30 => ?_
      refine rw_ 5 [(42, 0), (43, 1), (44, 2), (45, 3), (46, 4)] [[], [], [1], [2], [0, 3]] (rel [iI 2, iI 1, iI 2, iI 3, iB true])
        ⟨fun f s W c d j l m a => opm (a.v 9 k41_9),
    fun f s W c d j l m a => opm (a.v 8 k41_8),
    fun f s W c d j l m a => opv rfl rfl (by simp [go_sem, a.e 43 (d 1 rfl), IntWalk.i64_in (2) (by omega)]) rfl,
    fun f s W c d j l m a => opv rfl rfl (by simp [go_sem, a.e 44 (d 2 rfl), IntWalk.i64_in (3) (by omega)]) rfl,
    fun f s W c d j l m a => opv rfl rfl (by simp [go_sem, a.e 42 (d 0 rfl), a.e 45 (d 3 rfl)]) rfl, trivial⟩ ?_
      intro f42 s42 W42 hB42 g42 hg42 z42
      have fB42 := hB42.f fB41
      have b42_0 := hB42.b b41_0
      have b42_1 := hB42.b b41_1
      have b42_3 := hB42.b b41_3
      have b42_4 := hB42.b b41_4
      have q174' := (q168'.below hB42.below)
      have q175' := (q169'.below hB42.below)
      have q176' := (q170'.below hB42.below)
      have q177' := (q171'.below hB42.below)
      have q178' := (q172'.below hB42.below)
      have q179' := (q173'.below hB42.below)
      have k42_1 := kt hg42 1 k41_1
      have k42_2 := kt hg42 2 k41_2
      have k42_4 := kt hg42 4 k41_4
      have k42_5 := kt hg42 5 k41_5
      have k42_8 := kt hg42 8 k41_8
      have k42_9 := kt hg42 9 k41_9
      have k42_46 := kt hg42 46 (hB42.is 4)
      refine wp_cond_true ((fr_eval rfl).trans k42_46) ?_
      refine wp_skip ?_
      refine hK30 _ _ ?_
      refine wp_seq_k fun K33 hK33 => ?_
      refine wp_block ?_
      refine rw_ 5 [(49, 0), (50, 1), (51, 2), (52, 3), (10, 4)] [[], [0], [1], [2], [3]] (rel [iI 2, iI 0, is (.pointer (some ⟨(s5 1), 0, none⟩)), is (.slice (some ⟨gq0, 0, none⟩) n0 c0), is (.slice (some ⟨gq0, 0, none⟩) n0 c0)])
        ⟨fun f s W c d j l m a => opm (a.v 9 k42_9),
    fun f s W c d j l m a => by have qw_ := IntWalk.i64_in (0) (by decide); exact opv rfl rfl (by simp [go_sem, a.e 49 (d 0 rfl), qw_]) rfl,
    fun f s W c d j l m a => opv rfl rfl (by simp [go_sem, a.e 5 k42_5, a.e 50 (d 1 rfl)]) rfl,
    fun f s W c d j l m a => opv rfl rfl (by simp [go_sem, a.e 51 (d 2 rfl), cl (bwb b42_4 c) 0]) rfl,
    fun f s W c d j l m a => opm (a.v 52 (d 3 rfl)), trivial⟩ ?_
      intro f43 s43 W43 hB43 g43 hg43 z43
      have fB43 := hB43.f fB42
      have b43_0 := hB43.b b42_0
      have b43_1 := hB43.b b42_1
      have b43_3 := hB43.b b42_3
      have q180' := (q174'.below hB43.below)
      have q181' := (q175'.below hB43.below)
      have q182' := (q176'.below hB43.below)
      have q183' := (q177'.below hB43.below)
      have q184' := (q178'.below hB43.below)
      have q185' := (q179'.below hB43.below)
      have k43_1 := kt hg43 1 k42_1
      have k43_2 := kt hg43 2 k42_2
      have k43_4 := kt hg43 4 k42_4
      have k43_8 := kt hg43 8 k42_8
      have k43_9 := kt hg43 9 k42_9
      have k43_10 := kt hg43 10 (hB43.is 4)
      refine wp_seq_k fun K35 hK35 => ?_
      refine ry 14 [(53, 0), (54, 1), (55, 2), (56, 3), (57, 4), (58, 5), (59, 6), (60, 7), (61, 8), (62, 9), (63, 10), (64, 11), (65, 12), (66, 13), (67, 14), (68, 15)] [[], [0], [], [], [3], [], [5], [3, 4, 5, 6], [], [8], [3, 5, 7, 8, 9], [2, 3, 5, 8, 9, 10], [2, 3, 5, 8, 9, 10, 11], [2, 3, 5, 8, 9, 10, 11, 12], [0, 1, 2, 3, 4, 5, 6, 7, 8, 9, 10, 11, 12, 13], [0, 1, 2, 3, 4, 5, 6, 7, 8, 9, 10, 11, 12, 13, 14], [0, 1, 2, 3, 4, 5, 6, 7, 8, 9, 10, 11, 12, 13, 14, 15]] (rel [is (.pointer (some ⟨(s2 4), 0, none⟩)), is (.slice (some ⟨ga33, 0, none⟩) 2 ca33), is (.slice (some ⟨gq0, 0, none⟩) n0 c0), is (.pointer (some ⟨(s1 0), 2, none⟩)), is (.slice ay nb cb), iI 2, iI 3, iI ((byAt nb bs 3)), is (.slice (some ⟨gq0, 0, none⟩) n0 c0), iI ((n0 : Int)), iI (((ixW nb bs 3 n0 : Nat) : Int)), is (.pointer (some ⟨gq0, ixW nb bs 3 n0, none⟩)), iI ((elW l0 nb bs 3)), row 13 1 #[.int .i64 ((elW l0 nb bs 3))] 3])
        ⟨fun f s W c d j l m a => opv rfl rfl (by simp [go_sem, a.e 4 k43_4]) rfl,
    fun f s W c d j l m a => opv rfl rfl (by simp [go_sem, a.e 53 (d 0 rfl), cl (bwb b43_3 c) 0]) rfl,
    fun f s W c d j l m a => opm (a.v 10 k43_10),
    fun f s W c d j l m a => opv rfl rfl (by simp [go_sem, a.e 1 k43_1]) rfl,
    fun f s W c d j l m a => opv rfl rfl (by simp [go_sem, a.e 56 (d 3 rfl), cl (bwb b43_0 c) 2]) rfl,
    fun f s W c d j l m a => opm (a.v 9 k43_9),
    fun f s W c d j l m a => opv rfl rfl (by simp [go_sem, a.e 58 (d 5 rfl), IntWalk.i64_in (3) (by omega)]) rfl,
    fun f s W c d j l m a => by have p := bwt fB43 c; exact opc rfl rfl (by simp [go_sem, a.e 57 (d 4 rfl), a.e 59 (d 6 rfl)]) (armByte_any ay nb cb bs 3 W (hT.below p) (by decide)),
    fun f s W c d j l m a => opm (a.v 10 k43_10),
    fun f s W c d j l m a => opv rfl rfl (by simp [go_sem, a.e 61 (d 8 rfl)]) rfl,
    fun f s W c d j l m a => by have qu_ : (byAt nb bs 3).tmod (n0 : Int) = ((ixW nb bs 3 n0 : Nat) : Int) := ix_mod hT 3 n0; have ql_ := ix_lt (n := nb) (bs := bs) (k := 3) hp0; have qw_ := IntWalk.i64_in ((ixW nb bs 3 n0 : Nat) : Int) (by omega); have qz_ : ¬ (n0 : Int) = 0 := (by omega); have qn_ : ¬ n0 = 0 := (by omega); exact opv rfl rfl (by simp [go_sem, a.e 60 (d 7 rfl), a.e 62 (d 9 rfl), qu_, qw_, qz_, qn_]) rfl,
    fun f s W c d j l m a => by have ql_ := ix_lt (n := nb) (bs := bs) (k := 3) hp0; have li_ := Nat.not_le.2 ql_; have li2_ : ((ixW nb bs 3 n0 : Nat) : Int) < (n0 : Int) := (by omega); exact opv rfl rfl (by simp [go_sem, a.e 55 (d 2 rfl), a.e 63 (d 10 rfl), ql_, li_, li2_]) rfl,
    fun f s W c d j l m a => by have cu_ : W.cell? ⟨gq0, ixW nb bs 3 n0, none⟩ = some (.int .i64 (elW l0 nb bs 3)) := elW_cell (q182'.below c) lk6 hp0; exact opv rfl rfl (by simp [go_sem, a.e 64 (d 11 rfl), cu_]) rfl,
    fun f s W c d j l m a => opr rfl rfl (by simp [go_sem, a.e 65 (d 12 rfl)]), trivial⟩ ?_
      intro f44 s44 W44 hB44 g44 hg44 z44
      have fB44 := hB44.f fB43
      have b44_1 := hB44.b b43_1
      have b44_3 := hB44.b b43_3
      have q186' := (q180'.below hB44.below)
      have q187' := (q181'.below hB44.below)
      have q188' := (q182'.below hB44.below)
      have q189' := (q183'.below hB44.below)
      have q190' := (q184'.below hB44.below)
      have q191' := (q185'.below hB44.below)
      obtain ⟨r44_13, br44_13⟩ := hB44.is 13
      have lr44_13 := hB44.lr 13 br44_13
      have k44_54 := kt hg44 54 (hB44.is 1)
      have k44_66 := kt hg44 66 r44_13
      obtain ⟨ga45, ca45, W45, ra45, ow45, ot45, z45, gg45, fB45⟩ := growN_tail 39 39 3 1 8 _ (by kernel_rfl) infoI rfl (iis [(elW l0 nb bs 1), (elW l1 nb bs 2), (elW l0 nb bs 3)]) 3 (off := 0) (k := 1) (c' := 1) [.int .i64 ((elW l0 nb bs 3))] fB44 q190' rfl rfl rfl rfl (cells_at br44_13) (by omega)
      refine tail_value2 (o := _) rfl rfl rfl (run_appendOp (fr_ev k44_54) (fr_ev k44_66) ra45) ?_
      have b45_1 := ot45 _ _ (ownN_ne q190' b44_1) b44_1
      have b45_3 := ot45 _ _ (ownN_ne q190' b44_3) b44_3
      have gn45 : ga45 = ga33 ∨ ga45 = W44.heap.size := gg45.imp (fun e => by cases e; rfl) id
      have lw45 : W20.heap.size ≤ ga45 := by omega
      have q192' := OwnN.otherN q186' q190' ot45 z45
      have q193' := OwnN.otherN q187' q190' ot45 z45
      have q194' := OwnN.otherG q188' ot45 z45 (fun x y e e' => by cases e; cases e'; omega) q190'
      have q195' := OwnN.otherG q189' ot45 z45 (fun x y e e' => by cases e; cases e'; omega) q190'
      have q196' := OwnN.otherG q191' ot45 z45 (fun x y e e' => by cases e; cases e'; omega) q190'
      have nr45 : ga45 ≠ ga38 := by have := (OwnN.lim q191' _ rfl).2; omega
      have on45 : OwnN 3 1 w.heap.size 3 (iis [(elW l0 nb bs 1), (elW l1 nb bs 2), (elW l0 nb bs 3)]) (some ⟨ga45, 0, none⟩) ca45 W45 := .inr ⟨_, rfl, ow45⟩
      generalize hg45 : upd g44 67 (.slice (some ⟨ga45, 0, none⟩) 3 ca45) = g45
      have k45_4 := ku hg45 4 (kt hg44 4 k43_4)
      refine tail_value (o := _) rfl rfl rfl (v := .pointer (some ⟨(s2 4), 0, none⟩)) (by simp [go_sem, frv 87 k45_4]) ?_
      generalize hg46 : upd g45 68 (.pointer (some ⟨(s2 4), 0, none⟩)) = g46
      have k46_2 := ku hg46 2 (ku hg45 2 (kt hg44 2 k43_2))
      have k46_4 := ku hg46 4 k45_4
      have k46_8 := ku hg46 8 (ku hg45 8 (kt hg44 8 k43_8))
      have k46_9 := ku hg46 9 (ku hg45 9 (kt hg44 9 k43_9))
      have k46_67 := ku hg46 67 (kt hg45 67 (upd_same _ _ _))
      have k46_68 := kt hg46 68 (upd_same _ _ _)
      obtain ⟨W47, hW47⟩ : ∃ W', W' = W45.setRow (s2 4) #[.slice (some ⟨ga45, 0, none⟩) 3 ca45, .slice (some ⟨ga38, 0, none⟩) 1 ca38] := ⟨_, rfl⟩
      refine tsk (o := _) rfl ⟨rfl, rfl⟩ (run_seg hW47 (fr_ev k46_68) (fr_ev k46_67) b45_3 rfl rfl rfl rfl) ?_
      obtain ⟨fB47, nb47, ot47, z47⟩ := sgf hW47 fB45 b45_3 (by omega)
      clear hW47
      have b47_1 := ot47 _ _ (by omega) b45_1
      have q197' := q192'.other ot47 (ownN_ne q192' b45_3) z47
      have q198' := q193'.other ot47 (ownN_ne q193' b45_3) z47
      have q199' := q194'.other ot47 (ownN_ne q194' b45_3) z47
      have q200' := q195'.other ot47 (ownN_ne q195' b45_3) z47
      have q201' := q196'.other ot47 (ownN_ne q196' b45_3) z47
      have q202' := on45.other ot47 (ownN_ne on45 b45_3) z47
      refine wpe ?_
      refine hK35 _ _ ?_
      refine rw_ 3 [(69, 0), (70, 1), (71, 2)] [[], [0], [1]] (rel [iI 2, iI 0, iB false])
        ⟨fun f s W c d j l m a => opm (a.v 9 k46_9),
    fun f s W c d j l m a => by have qw_ := IntWalk.i64_in (0) (by decide); exact opv rfl rfl (by simp [go_sem, a.e 69 (d 0 rfl), qw_]) rfl,
    fun f s W c d j l m a => opv rfl rfl (by simp [go_sem, a.e 70 (d 1 rfl)]) rfl, trivial⟩ ?_
      intro f48 s48 W48 hB48 g48 hg48 z48
      have fB48 := hB48.f fB47
      have b48_1 := hB48.b b47_1
      have b48_3 := hB48.b nb47
      have q203' := (q197'.below hB48.below)
      have q204' := (q198'.below hB48.below)
      have q205' := (q199'.below hB48.below)
      have q206' := (q200'.below hB48.below)
      have q207' := (q201'.below hB48.below)
      have q208' := (q202'.below hB48.below)
      have k48_2 := kt hg48 2 k46_2
      have k48_4 := kt hg48 4 k46_4
      have k48_8 := kt hg48 8 k46_8
      have k48_9 := kt hg48 9 k46_9
      have k48_71 := kt hg48 71 (hB48.is 2)
      refine wp_cond_false ((fr_eval rfl).trans k48_71) ?_
      refine wp_skip ?_
      refine ibn ?_
      refine hK33 _ _ ?_
      refine ry 3 [(47, 0), (48, 1), (9, 2)] [[], [0], [0, 1]] (rel [iI 2, iI 3, iI 3])
        ⟨fun f s W c d j l m a => opm (a.v 9 ((l 2 9 rfl rfl).trans k48_9)),
    fun f s W c d j l m a => opv rfl rfl (by simp [go_sem, a.e 47 (d 0 rfl), IntWalk.i64_in (3) (by omega)]) rfl,
    fun f s W c d j l m a => opm (a.v 48 (d 1 rfl)), trivial⟩ ?_
      intro f49 s49 W49 hB49 g49 hg49 z49
      have fB49 := hB49.f fB48
      have b49_1 := hB49.b b48_1
      have b49_3 := hB49.b b48_3
      have q209' := (q203'.below hB49.below)
      have q210' := (q204'.below hB49.below)
      have q211' := (q205'.below hB49.below)
      have q212' := (q206'.below hB49.below)
      have q213' := (q207'.below hB49.below)
      have q214' := (q208'.below hB49.below)
      refine wpe ?_
      have k49_2 := kt hg49 2 k48_2
      have k49_4 := kt hg49 4 k48_4
      have k49_8 := kt hg49 8 k48_8
      have k49_9 := kt hg49 9 (hB49.is 2)
      refine then_normal ?_
      rw [rounds_succ]
      refine wp_seq_k fun K38 hK38 => ?_
      refine rw_ 5 [(42, 0), (43, 1), (44, 2), (45, 3), (46, 4)] [[], [], [1], [2], [0, 3]] (rel [iI 3, iI 1, iI 2, iI 3, iB false])
        ⟨fun f s W c d j l m a => opm (a.v 9 k49_9),
    fun f s W c d j l m a => opm (a.v 8 k49_8),
    fun f s W c d j l m a => opv rfl rfl (by simp [go_sem, a.e 43 (d 1 rfl), IntWalk.i64_in (2) (by omega)]) rfl,
    fun f s W c d j l m a => opv rfl rfl (by simp [go_sem, a.e 44 (d 2 rfl), IntWalk.i64_in (3) (by omega)]) rfl,
    fun f s W c d j l m a => opv rfl rfl (by simp [go_sem, a.e 42 (d 0 rfl), a.e 45 (d 3 rfl)]) rfl, trivial⟩ ?_
      intro f50 s50 W50 hB50 g50 hg50 z50
      have b50_3 := hB50.b b49_3
      have q215' := (q209'.below hB50.below)
      have q216' := (q210'.below hB50.below)
      have q217' := (q211'.below hB50.below)
      have q218' := (q212'.below hB50.below)
      have q219' := (q213'.below hB50.below)
      have q220' := (q214'.below hB50.below)
      have k50_4 := kt hg50 4 k49_4
      have k50_46 := kt hg50 46 (hB50.is 4)
      refine wp_cond_false ((fr_eval rfl).trans k50_46) ?_
      refine wp_exit ?_
      refine then_exit ?_
      refine then_exit ?_
      refine inBlock_at ?_
      refine hK12 _ _ ?_
      refine wp_seq_k fun K41 hK41 => ?_
      refine ry 1 [(86, 0)] [[], [0]] (rel [is (.agg #[.slice (some ⟨ga45, 0, none⟩) 3 ca45, .slice (some ⟨ga38, 0, none⟩) 1 ca38])])
        ⟨fun f s W c d j l m a => opv rfl rfl (by simp [go_sem, a.e 4 k50_4, cl (bwb b50_3 c) 0, cl (bwb b50_3 c) 1]) rfl, trivial⟩ ?_
      intro f51 s51 W51 hB51 g51 hg51 z51
      have fB51 := hB51.f (hB50.f fB49)
      have b51_1 := hB51.b (hB50.b b49_1)
      have q221' := (q215'.below hB51.below)
      have q222' := (q216'.below hB51.below)
      have q223' := (q217'.below hB51.below)
      have q224' := (q218'.below hB51.below)
      have q225' := (q219'.below hB51.below)
      have q226' := (q220'.below hB51.below)
      have k51_2 := kt hg51 2 (kt hg50 2 k49_2)
      have k51_86 := kt hg51 86 (hB51.is 0)
      obtain ⟨W52, hW52⟩ : ∃ W', W' = W51.setRow (s1 1) #[.slice (some ⟨ga45, 0, none⟩) 3 ca45, .slice (some ⟨ga38, 0, none⟩) 1 ca38] := ⟨_, rfl⟩
      refine tsk (o := _) rfl ⟨rfl, rfl⟩ (run_seg hW52 (fr_ev k51_2) (fr_ev k51_86) b51_1 rfl rfl rfl rfl) ?_
      obtain ⟨fB52, nb52, ot52, z52⟩ := sgf hW52 fB51 b51_1 (by omega)
      clear hW52
      have q227' := q221'.other ot52 (ownN_ne q221' b51_1) z52
      have q228' := q222'.other ot52 (ownN_ne q222' b51_1) z52
      have q229' := q223'.other ot52 (ownN_ne q223' b51_1) z52
      have q230' := q224'.other ot52 (ownN_ne q224' b51_1) z52
      have q231' := q225'.other ot52 (ownN_ne q225' b51_1) z52
      have q232' := q226'.other ot52 (ownN_ne q226' b51_1) z52
      refine wpe ?_
      refine hK41 _ _ ?_
      refine wp_ret ?_
      refine leave_gen (v := .agg #[.slice (some ⟨ga45, 0, none⟩) 3 ca45, .slice (some ⟨ga38, 0, none⟩) 1 ca38]) (.inr rfl) (by simp [results, Try.results16, go_sem, frv 87 k51_2, cl nb52 0, cl nb52 1]) ?_
      exact ⟨_, rfl, mk1_of hfl (OwnN.row q232') (OwnN.row q231') (by rw [hiP] at lk1 lk2; exact (kiL_el lk1 (by omega) 1).1) (by rw [hiP] at lk1 lk2; exact (kiL_el lk2 (by omega) 2).1) (by rw [hiP] at lk1 lk2; exact (kiL_el lk1 (by omega) 3).1), fB52⟩
    ·
      have kz233 : g20 8 = .int .i64 2 := k20_8.trans (by simp [hfl])
      refine ry 1 [(9, 0)] [[]] (rel [iI 0])
        ⟨fun f s W c d j l m a => opz, trivial⟩ ?_
      intro f53 s53 W53 hB53 g53 hg53 z53
      have fB53 := hB53.f fB20
      have b53_0 := hB53.b b20_0
      have b53_1 := hB53.b b20_1
      have b53_2 := hB53.b b20_2
      have b53_3 := hB53.b b20_3
      have b53_4 := hB53.b b20_4
      have q234' := (q64'.below hB53.below)
      have q235' := (q65'.below hB53.below)
      have q236' := (q66'.below hB53.below)
      have q237' := (q67'.below hB53.below)
      have q238' := (oiP.below hB53.below)
      have q239' := (oiF.below hB53.below)
      refine hK13 _ _ ?_
      have k53_1 := kt hg53 1 k20_1
      have k53_2 := kt hg53 2 k20_2
      have k53_3 := kt hg53 3 k20_3
      have k53_4 := kt hg53 4 k20_4
      have k53_5 := kt hg53 5 k20_5
      have k53_8 := kt hg53 8 kz233
      have k53_9 := kt hg53 9 (hB53.is 0)
      refine wp_block ?_
      refine wp_loop_rounds 6 ?_
      rw [rounds_succ]
      refine wp_seq_k fun K42 hK42 => ?_
      refine rw_ 5 [(42, 0), (43, 1), (44, 2), (45, 3), (46, 4)] [[], [], [1], [2], [0, 3]] (rel [iI 0, iI 2, iI 4, iI 5, iB true])
        ⟨fun f s W c d j l m a => opm (a.v 9 k53_9),
    fun f s W c d j l m a => opm (a.v 8 k53_8),
    fun f s W c d j l m a => opv rfl rfl (by simp [go_sem, a.e 43 (d 1 rfl), IntWalk.i64_in (4) (by omega)]) rfl,
    fun f s W c d j l m a => opv rfl rfl (by simp [go_sem, a.e 44 (d 2 rfl), IntWalk.i64_in (5) (by omega)]) rfl,
    fun f s W c d j l m a => opv rfl rfl (by simp [go_sem, a.e 42 (d 0 rfl), a.e 45 (d 3 rfl)]) rfl, trivial⟩ ?_
      intro f54 s54 W54 hB54 g54 hg54 z54
      have fB54 := hB54.f fB53
      have b54_0 := hB54.b b53_0
      have b54_1 := hB54.b b53_1
      have b54_2 := hB54.b b53_2
      have b54_3 := hB54.b b53_3
      have b54_4 := hB54.b b53_4
      have q240' := (q234'.below hB54.below)
      have q241' := (q235'.below hB54.below)
      have q242' := (q236'.below hB54.below)
      have q243' := (q237'.below hB54.below)
      have q244' := (q238'.below hB54.below)
      have q245' := (q239'.below hB54.below)
      have k54_1 := kt hg54 1 k53_1
      have k54_2 := kt hg54 2 k53_2
      have k54_3 := kt hg54 3 k53_3
      have k54_4 := kt hg54 4 k53_4
      have k54_5 := kt hg54 5 k53_5
      have k54_8 := kt hg54 8 k53_8
      have k54_9 := kt hg54 9 k53_9
      have k54_46 := kt hg54 46 (hB54.is 4)
      refine wp_cond_true ((fr_eval rfl).trans k54_46) ?_
      refine wp_skip ?_
      refine hK42 _ _ ?_
      refine wp_seq_k fun K45 hK45 => ?_
      refine wp_block ?_
      refine rw_ 5 [(49, 0), (50, 1), (51, 2), (52, 3), (10, 4)] [[], [0], [1], [2], [3]] (rel [iI 0, iI 0, is (.pointer (some ⟨(s5 1), 0, none⟩)), is (.slice (some ⟨gq0, 0, none⟩) n0 c0), is (.slice (some ⟨gq0, 0, none⟩) n0 c0)])
        ⟨fun f s W c d j l m a => opm (a.v 9 k54_9),
    fun f s W c d j l m a => by have qw_ := IntWalk.i64_in (0) (by decide); exact opv rfl rfl (by simp [go_sem, a.e 49 (d 0 rfl), qw_]) rfl,
    fun f s W c d j l m a => opv rfl rfl (by simp [go_sem, a.e 5 k54_5, a.e 50 (d 1 rfl)]) rfl,
    fun f s W c d j l m a => opv rfl rfl (by simp [go_sem, a.e 51 (d 2 rfl), cl (bwb b54_4 c) 0]) rfl,
    fun f s W c d j l m a => opm (a.v 52 (d 3 rfl)), trivial⟩ ?_
      intro f55 s55 W55 hB55 g55 hg55 z55
      have fB55 := hB55.f fB54
      have b55_0 := hB55.b b54_0
      have b55_1 := hB55.b b54_1
      have b55_2 := hB55.b b54_2
      have b55_3 := hB55.b b54_3
      have b55_4 := hB55.b b54_4
      have q246' := (q240'.below hB55.below)
      have q247' := (q241'.below hB55.below)
      have q248' := (q242'.below hB55.below)
      have q249' := (q243'.below hB55.below)
      have q250' := (q244'.below hB55.below)
      have q251' := (q245'.below hB55.below)
      have k55_1 := kt hg55 1 k54_1
      have k55_2 := kt hg55 2 k54_2
      have k55_3 := kt hg55 3 k54_3
      have k55_4 := kt hg55 4 k54_4
      have k55_5 := kt hg55 5 k54_5
      have k55_8 := kt hg55 8 k54_8
      have k55_9 := kt hg55 9 k54_9
      have k55_10 := kt hg55 10 (hB55.is 4)
      refine wp_seq_k fun K47 hK47 => ?_
      refine ry 14 [(53, 0), (54, 1), (55, 2), (56, 3), (57, 4), (58, 5), (59, 6), (60, 7), (61, 8), (62, 9), (63, 10), (64, 11), (65, 12), (66, 13), (67, 14), (68, 15)] [[], [0], [], [], [3], [], [5], [3, 4, 5, 6], [], [8], [3, 5, 7, 8, 9], [2, 3, 5, 8, 9, 10], [2, 3, 5, 8, 9, 10, 11], [2, 3, 5, 8, 9, 10, 11, 12], [0, 1, 2, 3, 4, 5, 6, 7, 8, 9, 10, 11, 12, 13], [0, 1, 2, 3, 4, 5, 6, 7, 8, 9, 10, 11, 12, 13, 14], [0, 1, 2, 3, 4, 5, 6, 7, 8, 9, 10, 11, 12, 13, 14, 15]] (rel [is (.pointer (some ⟨(s2 4), 0, none⟩)), is (.slice none 0 0), is (.slice (some ⟨gq0, 0, none⟩) n0 c0), is (.pointer (some ⟨(s1 0), 2, none⟩)), is (.slice ay nb cb), iI 0, iI 1, iI ((byAt nb bs 1)), is (.slice (some ⟨gq0, 0, none⟩) n0 c0), iI ((n0 : Int)), iI (((ixW nb bs 1 n0 : Nat) : Int)), is (.pointer (some ⟨gq0, ixW nb bs 1 n0, none⟩)), iI ((elW l0 nb bs 1)), row 13 1 #[.int .i64 ((elW l0 nb bs 1))] 3])
        ⟨fun f s W c d j l m a => opv rfl rfl (by simp [go_sem, a.e 4 k55_4]) rfl,
    fun f s W c d j l m a => opv rfl rfl (by simp [go_sem, a.e 53 (d 0 rfl), cl (bwb b55_3 c) 0]) rfl,
    fun f s W c d j l m a => opm (a.v 10 k55_10),
    fun f s W c d j l m a => opv rfl rfl (by simp [go_sem, a.e 1 k55_1]) rfl,
    fun f s W c d j l m a => opv rfl rfl (by simp [go_sem, a.e 56 (d 3 rfl), cl (bwb b55_0 c) 2]) rfl,
    fun f s W c d j l m a => opm (a.v 9 k55_9),
    fun f s W c d j l m a => opv rfl rfl (by simp [go_sem, a.e 58 (d 5 rfl), IntWalk.i64_in (1) (by omega)]) rfl,
    fun f s W c d j l m a => by have p := bwt fB55 c; exact opc rfl rfl (by simp [go_sem, a.e 57 (d 4 rfl), a.e 59 (d 6 rfl)]) (armByte_any ay nb cb bs 1 W (hT.below p) (by decide)),
    fun f s W c d j l m a => opm (a.v 10 k55_10),
    fun f s W c d j l m a => opv rfl rfl (by simp [go_sem, a.e 61 (d 8 rfl)]) rfl,
    fun f s W c d j l m a => by have qu_ : (byAt nb bs 1).tmod (n0 : Int) = ((ixW nb bs 1 n0 : Nat) : Int) := ix_mod hT 1 n0; have ql_ := ix_lt (n := nb) (bs := bs) (k := 1) hp0; have qw_ := IntWalk.i64_in ((ixW nb bs 1 n0 : Nat) : Int) (by omega); have qz_ : ¬ (n0 : Int) = 0 := (by omega); have qn_ : ¬ n0 = 0 := (by omega); exact opv rfl rfl (by simp [go_sem, a.e 60 (d 7 rfl), a.e 62 (d 9 rfl), qu_, qw_, qz_, qn_]) rfl,
    fun f s W c d j l m a => by have ql_ := ix_lt (n := nb) (bs := bs) (k := 1) hp0; have li_ := Nat.not_le.2 ql_; have li2_ : ((ixW nb bs 1 n0 : Nat) : Int) < (n0 : Int) := (by omega); exact opv rfl rfl (by simp [go_sem, a.e 55 (d 2 rfl), a.e 63 (d 10 rfl), ql_, li_, li2_]) rfl,
    fun f s W c d j l m a => by have cu_ : W.cell? ⟨gq0, ixW nb bs 1 n0, none⟩ = some (.int .i64 (elW l0 nb bs 1)) := elW_cell (q248'.below c) lk6 hp0; exact opv rfl rfl (by simp [go_sem, a.e 64 (d 11 rfl), cu_]) rfl,
    fun f s W c d j l m a => opr rfl rfl (by simp [go_sem, a.e 65 (d 12 rfl)]), trivial⟩ ?_
      intro f56 s56 W56 hB56 g56 hg56 z56
      have fB56 := hB56.f fB55
      have b56_0 := hB56.b b55_0
      have b56_1 := hB56.b b55_1
      have b56_2 := hB56.b b55_2
      have b56_3 := hB56.b b55_3
      have b56_4 := hB56.b b55_4
      have q252' := (q246'.below hB56.below)
      have q253' := (q247'.below hB56.below)
      have q254' := (q248'.below hB56.below)
      have q255' := (q249'.below hB56.below)
      have q256' := (q250'.below hB56.below)
      have q257' := (q251'.below hB56.below)
      obtain ⟨r56_13, br56_13⟩ := hB56.is 13
      have lr56_13 := hB56.lr 13 br56_13
      have k56_54 := kt hg56 54 (hB56.is 1)
      have k56_66 := kt hg56 66 r56_13
      obtain ⟨ga57, ca57, W57, ra57, ow57, ot57, z57, gg57, fB57⟩ := growN_tail 39 39 3 1 8 _ (by kernel_rfl) infoI rfl (iis [(elW l0 nb bs 1)]) 1 (off := 0) (k := 1) (c' := 1) [.int .i64 ((elW l0 nb bs 1))] fB56 q256' rfl rfl rfl rfl (cells_at br56_13) (by omega)
      refine tail_value2 (o := _) rfl rfl rfl (run_appendOp (fr_ev k56_54) (fr_ev k56_66) ra57) ?_
      have b57_0 := ot57 _ _ (ownN_ne q256' b56_0) b56_0
      have b57_1 := ot57 _ _ (ownN_ne q256' b56_1) b56_1
      have b57_2 := ot57 _ _ (ownN_ne q256' b56_2) b56_2
      have b57_3 := ot57 _ _ (ownN_ne q256' b56_3) b56_3
      have b57_4 := ot57 _ _ (ownN_ne q256' b56_4) b56_4
      have gn57 : ga57 = W56.heap.size := gg57.resolve_left nofun
      have lw57 : W20.heap.size ≤ ga57 := by omega
      have q258' := OwnN.otherN q252' q256' ot57 z57
      have q259' := OwnN.otherN q253' q256' ot57 z57
      have q260' := OwnN.otherG q254' ot57 z57 (fun x y _ e => by cases e) q256'
      have q261' := OwnN.otherG q255' ot57 z57 (fun x y _ e => by cases e) q256'
      have q262' := OwnN.otherG q257' ot57 z57 (fun x y e _ => by cases e) q256'
      have on57 : OwnN 3 1 w.heap.size 1 (iis [(elW l0 nb bs 1)]) (some ⟨ga57, 0, none⟩) ca57 W57 := .inr ⟨_, rfl, ow57⟩
      generalize hg57 : upd g56 67 (.slice (some ⟨ga57, 0, none⟩) 1 ca57) = g57
      have k57_4 := ku hg57 4 (kt hg56 4 k55_4)
      refine tail_value (o := _) rfl rfl rfl (v := .pointer (some ⟨(s2 4), 0, none⟩)) (by simp [go_sem, frv 87 k57_4]) ?_
      generalize hg58 : upd g57 68 (.pointer (some ⟨(s2 4), 0, none⟩)) = g58
      have k58_1 := ku hg58 1 (ku hg57 1 (kt hg56 1 k55_1))
      have k58_2 := ku hg58 2 (ku hg57 2 (kt hg56 2 k55_2))
      have k58_3 := ku hg58 3 (ku hg57 3 (kt hg56 3 k55_3))
      have k58_4 := ku hg58 4 k57_4
      have k58_5 := ku hg58 5 (ku hg57 5 (kt hg56 5 k55_5))
      have k58_8 := ku hg58 8 (ku hg57 8 (kt hg56 8 k55_8))
      have k58_9 := ku hg58 9 (ku hg57 9 (kt hg56 9 k55_9))
      have k58_67 := ku hg58 67 (kt hg57 67 (upd_same _ _ _))
      have k58_68 := kt hg58 68 (upd_same _ _ _)
      obtain ⟨W59, hW59⟩ : ∃ W', W' = W57.setRow (s2 4) #[.slice (some ⟨ga57, 0, none⟩) 1 ca57, .slice none 0 0] := ⟨_, rfl⟩
      refine tsk (o := _) rfl ⟨rfl, rfl⟩ (run_seg hW59 (fr_ev k58_68) (fr_ev k58_67) b57_3 rfl rfl rfl rfl) ?_
      obtain ⟨fB59, nb59, ot59, z59⟩ := sgf hW59 fB57 b57_3 (by omega)
      clear hW59
      have b59_0 := ot59 _ _ (by omega) b57_0
      have b59_1 := ot59 _ _ (by omega) b57_1
      have b59_2 := ot59 _ _ (by omega) b57_2
      have b59_4 := ot59 _ _ (by omega) b57_4
      have q263' := q258'.other ot59 (ownN_ne q258' b57_3) z59
      have q264' := q259'.other ot59 (ownN_ne q259' b57_3) z59
      have q265' := q260'.other ot59 (ownN_ne q260' b57_3) z59
      have q266' := q261'.other ot59 (ownN_ne q261' b57_3) z59
      have q267' := q262'.other ot59 (ownN_ne q262' b57_3) z59
      have q268' := on57.other ot59 (ownN_ne on57 b57_3) z59
      refine wpe ?_
      refine hK47 _ _ ?_
      refine rw_ 3 [(69, 0), (70, 1), (71, 2)] [[], [0], [1]] (rel [iI 0, iI 0, iB false])
        ⟨fun f s W c d j l m a => opm (a.v 9 k58_9),
    fun f s W c d j l m a => by have qw_ := IntWalk.i64_in (0) (by decide); exact opv rfl rfl (by simp [go_sem, a.e 69 (d 0 rfl), qw_]) rfl,
    fun f s W c d j l m a => opv rfl rfl (by simp [go_sem, a.e 70 (d 1 rfl)]) rfl, trivial⟩ ?_
      intro f60 s60 W60 hB60 g60 hg60 z60
      have fB60 := hB60.f fB59
      have b60_0 := hB60.b b59_0
      have b60_1 := hB60.b b59_1
      have b60_2 := hB60.b b59_2
      have b60_3 := hB60.b nb59
      have b60_4 := hB60.b b59_4
      have q269' := (q263'.below hB60.below)
      have q270' := (q264'.below hB60.below)
      have q271' := (q265'.below hB60.below)
      have q272' := (q266'.below hB60.below)
      have q273' := (q267'.below hB60.below)
      have q274' := (q268'.below hB60.below)
      have k60_1 := kt hg60 1 k58_1
      have k60_2 := kt hg60 2 k58_2
      have k60_3 := kt hg60 3 k58_3
      have k60_4 := kt hg60 4 k58_4
      have k60_5 := kt hg60 5 k58_5
      have k60_8 := kt hg60 8 k58_8
      have k60_9 := kt hg60 9 k58_9
      have k60_71 := kt hg60 71 (hB60.is 2)
      refine wp_cond_false ((fr_eval rfl).trans k60_71) ?_
      refine wp_skip ?_
      refine ibn ?_
      refine hK45 _ _ ?_
      refine ry 3 [(47, 0), (48, 1), (9, 2)] [[], [0], [0, 1]] (rel [iI 0, iI 1, iI 1])
        ⟨fun f s W c d j l m a => opm (a.v 9 ((l 2 9 rfl rfl).trans k60_9)),
    fun f s W c d j l m a => opv rfl rfl (by simp [go_sem, a.e 47 (d 0 rfl), IntWalk.i64_in (1) (by omega)]) rfl,
    fun f s W c d j l m a => opm (a.v 48 (d 1 rfl)), trivial⟩ ?_
      intro f61 s61 W61 hB61 g61 hg61 z61
      have fB61 := hB61.f fB60
      have b61_0 := hB61.b b60_0
      have b61_1 := hB61.b b60_1
      have b61_2 := hB61.b b60_2
      have b61_3 := hB61.b b60_3
      have b61_4 := hB61.b b60_4
      have q275' := (q269'.below hB61.below)
      have q276' := (q270'.below hB61.below)
      have q277' := (q271'.below hB61.below)
      have q278' := (q272'.below hB61.below)
      have q279' := (q273'.below hB61.below)
      have q280' := (q274'.below hB61.below)
      refine wpe ?_
      have k61_1 := kt hg61 1 k60_1
      have k61_2 := kt hg61 2 k60_2
      have k61_3 := kt hg61 3 k60_3
      have k61_4 := kt hg61 4 k60_4
      have k61_5 := kt hg61 5 k60_5
      have k61_8 := kt hg61 8 k60_8
      have k61_9 := kt hg61 9 (hB61.is 2)
      refine then_normal ?_
      rw [rounds_succ]
      refine wp_seq_k fun K50 hK50 => ?_
      refine rw_ 5 [(42, 0), (43, 1), (44, 2), (45, 3), (46, 4)] [[], [], [1], [2], [0, 3]] (rel [iI 1, iI 2, iI 4, iI 5, iB true])
        ⟨fun f s W c d j l m a => opm (a.v 9 k61_9),
    fun f s W c d j l m a => opm (a.v 8 k61_8),
    fun f s W c d j l m a => opv rfl rfl (by simp [go_sem, a.e 43 (d 1 rfl), IntWalk.i64_in (4) (by omega)]) rfl,
    fun f s W c d j l m a => opv rfl rfl (by simp [go_sem, a.e 44 (d 2 rfl), IntWalk.i64_in (5) (by omega)]) rfl,
    fun f s W c d j l m a => opv rfl rfl (by simp [go_sem, a.e 42 (d 0 rfl), a.e 45 (d 3 rfl)]) rfl, trivial⟩ ?_
      intro f62 s62 W62 hB62 g62 hg62 z62
      have fB62 := hB62.f fB61
      have b62_0 := hB62.b b61_0
      have b62_1 := hB62.b b61_1
      have b62_2 := hB62.b b61_2
      have b62_3 := hB62.b b61_3
      have b62_4 := hB62.b b61_4
      have q281' := (q275'.below hB62.below)
      have q282' := (q276'.below hB62.below)
      have q283' := (q277'.below hB62.below)
      have q284' := (q278'.below hB62.below)
      have q285' := (q279'.below hB62.below)
      have q286' := (q280'.below hB62.below)
      have k62_1 := kt hg62 1 k61_1
      have k62_2 := kt hg62 2 k61_2
      have k62_3 := kt hg62 3 k61_3
      have k62_4 := kt hg62 4 k61_4
      have k62_5 := kt hg62 5 k61_5
      have k62_8 := kt hg62 8 k61_8
      have k62_9 := kt hg62 9 k61_9
      have k62_46 := kt hg62 46 (hB62.is 4)
      refine wp_cond_true ((fr_eval rfl).trans k62_46) ?_
      refine wp_skip ?_
      refine hK50 _ _ ?_
      refine wp_seq_k fun K53 hK53 => ?_
      refine wp_block ?_
      refine rw_ 5 [(49, 0), (50, 1), (51, 2), (52, 3), (10, 4)] [[], [0], [1], [2], [3]] (rel [iI 1, iI 1, is (.pointer (some ⟨(s5 1), 1, none⟩)), is (.slice (some ⟨gq1, 0, none⟩) n1 c1), is (.slice (some ⟨gq1, 0, none⟩) n1 c1)])
        ⟨fun f s W c d j l m a => opm (a.v 9 k62_9),
    fun f s W c d j l m a => by have qw_ := IntWalk.i64_in (1) (by decide); exact opv rfl rfl (by simp [go_sem, a.e 49 (d 0 rfl), qw_]) rfl,
    fun f s W c d j l m a => opv rfl rfl (by simp [go_sem, a.e 5 k62_5, a.e 50 (d 1 rfl)]) rfl,
    fun f s W c d j l m a => opv rfl rfl (by simp [go_sem, a.e 51 (d 2 rfl), cl (bwb b62_4 c) 1]) rfl,
    fun f s W c d j l m a => opm (a.v 52 (d 3 rfl)), trivial⟩ ?_
      intro f63 s63 W63 hB63 g63 hg63 z63
      have fB63 := hB63.f fB62
      have b63_0 := hB63.b b62_0
      have b63_1 := hB63.b b62_1
      have b63_2 := hB63.b b62_2
      have b63_3 := hB63.b b62_3
      have b63_4 := hB63.b b62_4
      have q287' := (q281'.below hB63.below)
      have q288' := (q282'.below hB63.below)
      have q289' := (q283'.below hB63.below)
      have q290' := (q284'.below hB63.below)
      have q291' := (q285'.below hB63.below)
      have q292' := (q286'.below hB63.below)
      have k63_1 := kt hg63 1 k62_1
      have k63_2 := kt hg63 2 k62_2
      have k63_3 := kt hg63 3 k62_3
      have k63_4 := kt hg63 4 k62_4
      have k63_5 := kt hg63 5 k62_5
      have k63_8 := kt hg63 8 k62_8
      have k63_9 := kt hg63 9 k62_9
      have k63_10 := kt hg63 10 (hB63.is 4)
      refine wp_seq_k fun K55 hK55 => ?_
      refine ry 14 [(53, 0), (54, 1), (55, 2), (56, 3), (57, 4), (58, 5), (59, 6), (60, 7), (61, 8), (62, 9), (63, 10), (64, 11), (65, 12), (66, 13), (67, 14), (68, 15)] [[], [0], [], [], [3], [], [5], [3, 4, 5, 6], [], [8], [3, 5, 7, 8, 9], [2, 3, 5, 8, 9, 10], [2, 3, 5, 8, 9, 10, 11], [2, 3, 5, 8, 9, 10, 11, 12], [0, 1, 2, 3, 4, 5, 6, 7, 8, 9, 10, 11, 12, 13], [0, 1, 2, 3, 4, 5, 6, 7, 8, 9, 10, 11, 12, 13, 14], [0, 1, 2, 3, 4, 5, 6, 7, 8, 9, 10, 11, 12, 13, 14, 15]] (rel [is (.pointer (some ⟨(s2 4), 0, none⟩)), is (.slice (some ⟨ga57, 0, none⟩) 1 ca57), is (.slice (some ⟨gq1, 0, none⟩) n1 c1), is (.pointer (some ⟨(s1 0), 2, none⟩)), is (.slice ay nb cb), iI 1, iI 2, iI ((byAt nb bs 2)), is (.slice (some ⟨gq1, 0, none⟩) n1 c1), iI ((n1 : Int)), iI (((ixW nb bs 2 n1 : Nat) : Int)), is (.pointer (some ⟨gq1, ixW nb bs 2 n1, none⟩)), iI ((elW l1 nb bs 2)), row 13 1 #[.int .i64 ((elW l1 nb bs 2))] 3])
        ⟨fun f s W c d j l m a => opv rfl rfl (by simp [go_sem, a.e 4 k63_4]) rfl,
    fun f s W c d j l m a => opv rfl rfl (by simp [go_sem, a.e 53 (d 0 rfl), cl (bwb b63_3 c) 0]) rfl,
    fun f s W c d j l m a => opm (a.v 10 k63_10),
    fun f s W c d j l m a => opv rfl rfl (by simp [go_sem, a.e 1 k63_1]) rfl,
    fun f s W c d j l m a => opv rfl rfl (by simp [go_sem, a.e 56 (d 3 rfl), cl (bwb b63_0 c) 2]) rfl,
    fun f s W c d j l m a => opm (a.v 9 k63_9),
    fun f s W c d j l m a => opv rfl rfl (by simp [go_sem, a.e 58 (d 5 rfl), IntWalk.i64_in (2) (by omega)]) rfl,
    fun f s W c d j l m a => by have p := bwt fB63 c; exact opc rfl rfl (by simp [go_sem, a.e 57 (d 4 rfl), a.e 59 (d 6 rfl)]) (armByte_any ay nb cb bs 2 W (hT.below p) (by decide)),
    fun f s W c d j l m a => opm (a.v 10 k63_10),
    fun f s W c d j l m a => opv rfl rfl (by simp [go_sem, a.e 61 (d 8 rfl)]) rfl,
    fun f s W c d j l m a => by have qu_ : (byAt nb bs 2).tmod (n1 : Int) = ((ixW nb bs 2 n1 : Nat) : Int) := ix_mod hT 2 n1; have ql_ := ix_lt (n := nb) (bs := bs) (k := 2) hp1; have qw_ := IntWalk.i64_in ((ixW nb bs 2 n1 : Nat) : Int) (by omega); have qz_ : ¬ (n1 : Int) = 0 := (by omega); have qn_ : ¬ n1 = 0 := (by omega); exact opv rfl rfl (by simp [go_sem, a.e 60 (d 7 rfl), a.e 62 (d 9 rfl), qu_, qw_, qz_, qn_]) rfl,
    fun f s W c d j l m a => by have ql_ := ix_lt (n := nb) (bs := bs) (k := 2) hp1; have li_ := Nat.not_le.2 ql_; have li2_ : ((ixW nb bs 2 n1 : Nat) : Int) < (n1 : Int) := (by omega); exact opv rfl rfl (by simp [go_sem, a.e 55 (d 2 rfl), a.e 63 (d 10 rfl), ql_, li_, li2_]) rfl,
    fun f s W c d j l m a => by have cu_ : W.cell? ⟨gq1, ixW nb bs 2 n1, none⟩ = some (.int .i64 (elW l1 nb bs 2)) := elW_cell (q290'.below c) lk7 hp1; exact opv rfl rfl (by simp [go_sem, a.e 64 (d 11 rfl), cu_]) rfl,
    fun f s W c d j l m a => opr rfl rfl (by simp [go_sem, a.e 65 (d 12 rfl)]), trivial⟩ ?_
      intro f64 s64 W64 hB64 g64 hg64 z64
      have fB64 := hB64.f fB63
      have b64_0 := hB64.b b63_0
      have b64_1 := hB64.b b63_1
      have b64_2 := hB64.b b63_2
      have b64_3 := hB64.b b63_3
      have b64_4 := hB64.b b63_4
      have q293' := (q287'.below hB64.below)
      have q294' := (q288'.below hB64.below)
      have q295' := (q289'.below hB64.below)
      have q296' := (q290'.below hB64.below)
      have q297' := (q291'.below hB64.below)
      have q298' := (q292'.below hB64.below)
      obtain ⟨r64_13, br64_13⟩ := hB64.is 13
      have lr64_13 := hB64.lr 13 br64_13
      have k64_54 := kt hg64 54 (hB64.is 1)
      have k64_66 := kt hg64 66 r64_13
      obtain ⟨ga65, ca65, W65, ra65, ow65, ot65, z65, gg65, fB65⟩ := growN_tail 39 39 3 1 8 _ (by kernel_rfl) infoI rfl (iis [(elW l0 nb bs 1), (elW l1 nb bs 2)]) 2 (off := 0) (k := 1) (c' := 1) [.int .i64 ((elW l1 nb bs 2))] fB64 q298' rfl rfl rfl rfl (cells_at br64_13) (by omega)
      refine tail_value2 (o := _) rfl rfl rfl (run_appendOp (fr_ev k64_54) (fr_ev k64_66) ra65) ?_
      have b65_0 := ot65 _ _ (ownN_ne q298' b64_0) b64_0
      have b65_1 := ot65 _ _ (ownN_ne q298' b64_1) b64_1
      have b65_2 := ot65 _ _ (ownN_ne q298' b64_2) b64_2
      have b65_3 := ot65 _ _ (ownN_ne q298' b64_3) b64_3
      have b65_4 := ot65 _ _ (ownN_ne q298' b64_4) b64_4
      have gn65 : ga65 = ga57 ∨ ga65 = W64.heap.size := gg65.imp (fun e => by cases e; rfl) id
      have lw65 : W20.heap.size ≤ ga65 := by omega
      have q299' := OwnN.otherN q293' q298' ot65 z65
      have q300' := OwnN.otherN q294' q298' ot65 z65
      have q301' := OwnN.otherG q295' ot65 z65 (fun x y e e' => by cases e; cases e'; omega) q298'
      have q302' := OwnN.otherG q296' ot65 z65 (fun x y e e' => by cases e; cases e'; omega) q298'
      have q303' := OwnN.otherG q297' ot65 z65 (fun x y e _ => by cases e) q298'
      have on65 : OwnN 3 1 w.heap.size 2 (iis [(elW l0 nb bs 1), (elW l1 nb bs 2)]) (some ⟨ga65, 0, none⟩) ca65 W65 := .inr ⟨_, rfl, ow65⟩
      generalize hg65 : upd g64 67 (.slice (some ⟨ga65, 0, none⟩) 2 ca65) = g65
      have k65_4 := ku hg65 4 (kt hg64 4 k63_4)
      refine tail_value (o := _) rfl rfl rfl (v := .pointer (some ⟨(s2 4), 0, none⟩)) (by simp [go_sem, frv 87 k65_4]) ?_
      generalize hg66 : upd g65 68 (.pointer (some ⟨(s2 4), 0, none⟩)) = g66
      have k66_1 := ku hg66 1 (ku hg65 1 (kt hg64 1 k63_1))
      have k66_2 := ku hg66 2 (ku hg65 2 (kt hg64 2 k63_2))
      have k66_3 := ku hg66 3 (ku hg65 3 (kt hg64 3 k63_3))
      have k66_4 := ku hg66 4 k65_4
      have k66_5 := ku hg66 5 (ku hg65 5 (kt hg64 5 k63_5))
      have k66_8 := ku hg66 8 (ku hg65 8 (kt hg64 8 k63_8))
      have k66_9 := ku hg66 9 (ku hg65 9 (kt hg64 9 k63_9))
      have k66_67 := ku hg66 67 (kt hg65 67 (upd_same _ _ _))
      have k66_68 := kt hg66 68 (upd_same _ _ _)
      obtain ⟨W67, hW67⟩ : ∃ W', W' = W65.setRow (s2 4) #[.slice (some ⟨ga65, 0, none⟩) 2 ca65, .slice none 0 0] := ⟨_, rfl⟩
      refine tsk (o := _) rfl ⟨rfl, rfl⟩ (run_seg hW67 (fr_ev k66_68) (fr_ev k66_67) b65_3 rfl rfl rfl rfl) ?_
      obtain ⟨fB67, nb67, ot67, z67⟩ := sgf hW67 fB65 b65_3 (by omega)
      clear hW67
      have b67_0 := ot67 _ _ (by omega) b65_0
      have b67_1 := ot67 _ _ (by omega) b65_1
      have b67_2 := ot67 _ _ (by omega) b65_2
      have b67_4 := ot67 _ _ (by omega) b65_4
      have q304' := q299'.other ot67 (ownN_ne q299' b65_3) z67
      have q305' := q300'.other ot67 (ownN_ne q300' b65_3) z67
      have q306' := q301'.other ot67 (ownN_ne q301' b65_3) z67
      have q307' := q302'.other ot67 (ownN_ne q302' b65_3) z67
      have q308' := q303'.other ot67 (ownN_ne q303' b65_3) z67
      have q309' := on65.other ot67 (ownN_ne on65 b65_3) z67
      refine wpe ?_
      refine hK55 _ _ ?_
      refine rw_ 3 [(69, 0), (70, 1), (71, 2)] [[], [0], [1]] (rel [iI 1, iI 1, iB true])
        ⟨fun f s W c d j l m a => opm (a.v 9 k66_9),
    fun f s W c d j l m a => by have qw_ := IntWalk.i64_in (1) (by decide); exact opv rfl rfl (by simp [go_sem, a.e 69 (d 0 rfl), qw_]) rfl,
    fun f s W c d j l m a => opv rfl rfl (by simp [go_sem, a.e 70 (d 1 rfl)]) rfl, trivial⟩ ?_
      intro f68 s68 W68 hB68 g68 hg68 z68
      have fB68 := hB68.f fB67
      have b68_0 := hB68.b b67_0
      have b68_1 := hB68.b b67_1
      have b68_2 := hB68.b b67_2
      have b68_3 := hB68.b nb67
      have b68_4 := hB68.b b67_4
      have q310' := (q304'.below hB68.below)
      have q311' := (q305'.below hB68.below)
      have q312' := (q306'.below hB68.below)
      have q313' := (q307'.below hB68.below)
      have q314' := (q308'.below hB68.below)
      have q315' := (q309'.below hB68.below)
      have k68_1 := kt hg68 1 k66_1
      have k68_2 := kt hg68 2 k66_2
      have k68_3 := kt hg68 3 k66_3
      have k68_4 := kt hg68 4 k66_4
      have k68_5 := kt hg68 5 k66_5
      have k68_8 := kt hg68 8 k66_8
      have k68_9 := kt hg68 9 k66_9
      have k68_71 := kt hg68 71 (hB68.is 2)
      refine wp_cond_true ((fr_eval rfl).trans k68_71) ?_
      refine ry 12 [(72, 0), (73, 1), (74, 2), (75, 3), (76, 4), (77, 5), (78, 6), (79, 7), (80, 8), (81, 9), (82, 10), (83, 11), (84, 12), (85, 13)] [[], [0], [], [2], [], [4], [2, 3, 4, 5], [], [7], [7, 8], [2, 4, 6, 7, 8, 9], [2, 4, 7, 8, 9, 10], [0, 1, 2, 3, 4, 5, 6, 7, 8, 9, 10, 11], [0, 1, 2, 3, 4, 5, 6, 7, 8, 9, 10, 11, 12], [0, 1, 2, 3, 4, 5, 6, 7, 8, 9, 10, 11, 12, 13]] (rel [is (.pointer (some ⟨(s2 4), 1, none⟩)), is (.slice none 0 0), is (.pointer (some ⟨(s1 0), 2, none⟩)), is (.slice ay nb cb), iI 1, iI 7, iI ((byAt nb bs 7)), is (.pointer (some ⟨(s2 3), 1, none⟩)), is (.slice (some ⟨g2', 0, none⟩) nF c4'), iI ((nF : Int)), iI (((ixW nb bs 7 nF : Nat) : Int)), row 11 1 #[.int .i64 (((ixW nb bs 7 nF : Nat) : Int))] 3])
        ⟨fun f s W c d j l m a => opv rfl rfl (by simp [go_sem, a.e 4 k68_4]) rfl,
    fun f s W c d j l m a => opv rfl rfl (by simp [go_sem, a.e 72 (d 0 rfl), cl (bwb b68_3 c) 1]) rfl,
    fun f s W c d j l m a => opv rfl rfl (by simp [go_sem, a.e 1 k68_1]) rfl,
    fun f s W c d j l m a => opv rfl rfl (by simp [go_sem, a.e 74 (d 2 rfl), cl (bwb b68_0 c) 2]) rfl,
    fun f s W c d j l m a => opm (a.v 9 k68_9),
    fun f s W c d j l m a => opv rfl rfl (by simp [go_sem, a.e 76 (d 4 rfl), IntWalk.i64_in (7) (by omega)]) rfl,
    fun f s W c d j l m a => by have p := bwt fB68 c; exact opc rfl rfl (by simp [go_sem, a.e 75 (d 3 rfl), a.e 77 (d 5 rfl)]) (armByte_any ay nb cb bs 7 W (hT.below p) (by decide)),
    fun f s W c d j l m a => opv rfl rfl (by simp [go_sem, a.e 3 k68_3]) rfl,
    fun f s W c d j l m a => opv rfl rfl (by simp [go_sem, a.e 79 (d 7 rfl), cl (bwb b68_2 c) 1]) rfl,
    fun f s W c d j l m a => opv rfl rfl (by simp [go_sem, a.e 80 (d 8 rfl)]) rfl,
    fun f s W c d j l m a => by have qu_ : (byAt nb bs 7).tmod (nF : Int) = ((ixW nb bs 7 nF : Nat) : Int) := ix_mod hT 7 nF; have ql_ := ix_lt (n := nb) (bs := bs) (k := 7) hpF; have qw_ := IntWalk.i64_in ((ixW nb bs 7 nF : Nat) : Int) (by omega); have qz_ : ¬ (nF : Int) = 0 := (by omega); have qn_ : ¬ nF = 0 := (by omega); exact opv rfl rfl (by simp [go_sem, a.e 78 (d 6 rfl), a.e 81 (d 9 rfl), qu_, qw_, qz_, qn_]) rfl,
    fun f s W c d j l m a => opr rfl rfl (by simp [go_sem, a.e 82 (d 10 rfl)]), trivial⟩ ?_
      intro f69 s69 W69 hB69 g69 hg69 z69
      have fB69 := hB69.f fB68
      have b69_0 := hB69.b b68_0
      have b69_1 := hB69.b b68_1
      have b69_2 := hB69.b b68_2
      have b69_3 := hB69.b b68_3
      have b69_4 := hB69.b b68_4
      have q316' := (q310'.below hB69.below)
      have q317' := (q311'.below hB69.below)
      have q318' := (q312'.below hB69.below)
      have q319' := (q313'.below hB69.below)
      have q320' := (q314'.below hB69.below)
      have q321' := (q315'.below hB69.below)
      obtain ⟨r69_11, br69_11⟩ := hB69.is 11
      have lr69_11 := hB69.lr 11 br69_11
      have k69_73 := kt hg69 73 (hB69.is 1)
      have k69_83 := kt hg69 83 r69_11
      obtain ⟨ga70, ca70, W70, ra70, ow70, ot70, z70, gg70, fB70⟩ := growN_tail 39 39 3 1 8 _ (by kernel_rfl) infoI rfl (iis [((ixW nb bs 7 nF : Nat) : Int)]) 1 (off := 0) (k := 1) (c' := 1) [.int .i64 (((ixW nb bs 7 nF : Nat) : Int))] fB69 q320' rfl rfl rfl rfl (cells_at br69_11) (by omega)
      refine tail_value2 (o := _) rfl rfl rfl (run_appendOp (fr_ev k69_73) (fr_ev k69_83) ra70) ?_
      have b70_0 := ot70 _ _ (ownN_ne q320' b69_0) b69_0
      have b70_1 := ot70 _ _ (ownN_ne q320' b69_1) b69_1
      have b70_2 := ot70 _ _ (ownN_ne q320' b69_2) b69_2
      have b70_3 := ot70 _ _ (ownN_ne q320' b69_3) b69_3
      have b70_4 := ot70 _ _ (ownN_ne q320' b69_4) b69_4
      have gn70 : ga70 = W69.heap.size := gg70.resolve_left nofun
      have lw70 : W20.heap.size ≤ ga70 := by omega
      have q322' := OwnN.otherN q316' q320' ot70 z70
      have q323' := OwnN.otherN q317' q320' ot70 z70
      have q324' := OwnN.otherG q318' ot70 z70 (fun x y _ e => by cases e) q320'
      have q325' := OwnN.otherG q319' ot70 z70 (fun x y _ e => by cases e) q320'
      have q326' := OwnN.otherG q321' ot70 z70 (fun x y _ e => by cases e) q320'
      have nr70 : ga70 ≠ ga65 := by have := (OwnN.lim q321' _ rfl).2; omega
      have on70 : OwnN 3 1 w.heap.size 1 (iis [((ixW nb bs 7 nF : Nat) : Int)]) (some ⟨ga70, 0, none⟩) ca70 W70 := .inr ⟨_, rfl, ow70⟩
      generalize hg70 : upd g69 84 (.slice (some ⟨ga70, 0, none⟩) 1 ca70) = g70
      have k70_4 := ku hg70 4 (kt hg69 4 k68_4)
      refine tail_value (o := _) rfl rfl rfl (v := .pointer (some ⟨(s2 4), 1, none⟩)) (by simp [go_sem, frv 87 k70_4]) ?_
      generalize hg71 : upd g70 85 (.pointer (some ⟨(s2 4), 1, none⟩)) = g71
      have k71_1 := ku hg71 1 (ku hg70 1 (kt hg69 1 k68_1))
      have k71_2 := ku hg71 2 (ku hg70 2 (kt hg69 2 k68_2))
      have k71_3 := ku hg71 3 (ku hg70 3 (kt hg69 3 k68_3))
      have k71_4 := ku hg71 4 k70_4
      have k71_5 := ku hg71 5 (ku hg70 5 (kt hg69 5 k68_5))
      have k71_8 := ku hg71 8 (ku hg70 8 (kt hg69 8 k68_8))
      have k71_9 := ku hg71 9 (ku hg70 9 (kt hg69 9 k68_9))
      have k71_84 := ku hg71 84 (kt hg70 84 (upd_same _ _ _))
      have k71_85 := kt hg71 85 (upd_same _ _ _)
      obtain ⟨W72, hW72⟩ : ∃ W', W' = W70.setRow (s2 4) #[.slice (some ⟨ga65, 0, none⟩) 2 ca65, .slice (some ⟨ga70, 0, none⟩) 1 ca70] := ⟨_, rfl⟩
      refine tsk (o := _) rfl ⟨rfl, rfl⟩ (run_seg hW72 (fr_ev k71_85) (fr_ev k71_84) b70_3 rfl rfl rfl rfl) ?_
      obtain ⟨fB72, nb72, ot72, z72⟩ := sgf hW72 fB70 b70_3 (by omega)
      clear hW72
      have b72_0 := ot72 _ _ (by omega) b70_0
      have b72_1 := ot72 _ _ (by omega) b70_1
      have b72_2 := ot72 _ _ (by omega) b70_2
      have b72_4 := ot72 _ _ (by omega) b70_4
      have q327' := q322'.other ot72 (ownN_ne q322' b70_3) z72
      have q328' := q323'.other ot72 (ownN_ne q323' b70_3) z72
      have q329' := q324'.other ot72 (ownN_ne q324' b70_3) z72
      have q330' := q325'.other ot72 (ownN_ne q325' b70_3) z72
      have q331' := q326'.other ot72 (ownN_ne q326' b70_3) z72
      have q332' := on70.other ot72 (ownN_ne on70 b70_3) z72
      refine wpe ?_
      refine ibn ?_
      refine hK53 _ _ ?_
      refine ry 3 [(47, 0), (48, 1), (9, 2)] [[], [0], [0, 1]] (rel [iI 1, iI 2, iI 2])
        ⟨fun f s W c d j l m a => opm (a.v 9 ((l 2 9 rfl rfl).trans k71_9)),
    fun f s W c d j l m a => opv rfl rfl (by simp [go_sem, a.e 47 (d 0 rfl), IntWalk.i64_in (2) (by omega)]) rfl,
    fun f s W c d j l m a => opm (a.v 48 (d 1 rfl)), trivial⟩ ?_
      intro f73 s73 W73 hB73 g73 hg73 z73
      have fB73 := hB73.f fB72
      have b73_0 := hB73.b b72_0
      have b73_1 := hB73.b b72_1
      have b73_2 := hB73.b b72_2
      have b73_3 := hB73.b nb72
      have b73_4 := hB73.b b72_4
      have q333' := (q327'.below hB73.below)
      have q334' := (q328'.below hB73.below)
      have q335' := (q329'.below hB73.below)
      have q336' := (q330'.below hB73.below)
      have q337' := (q331'.below hB73.below)
      have q338' := (q332'.below hB73.below)
      refine wpe ?_
      have k73_1 := kt hg73 1 k71_1
      have k73_2 := kt hg73 2 k71_2
      have k73_3 := kt hg73 3 k71_3
      have k73_4 := kt hg73 4 k71_4
      have k73_5 := kt hg73 5 k71_5
      have k73_8 := kt hg73 8 k71_8
      have k73_9 := kt hg73 9 (hB73.is 2)
      refine then_normal ?_
      rw [rounds_succ]
      refine wp_seq_k fun K58 hK58 => ?_
      refine rw_ 5 [(42, 0), (43, 1), (44, 2), (45, 3), (46, 4)] [[], [], [1], [2], [0, 3]] (rel [iI 2, iI 2, iI 4, iI 5, iB true])
        ⟨fun f s W c d j l m a => opm (a.v 9 k73_9),
    fun f s W c d j l m a => opm (a.v 8 k73_8),
    fun f s W c d j l m a => opv rfl rfl (by simp [go_sem, a.e 43 (d 1 rfl), IntWalk.i64_in (4) (by omega)]) rfl,
    fun f s W c d j l m a => opv rfl rfl (by simp [go_sem, a.e 44 (d 2 rfl), IntWalk.i64_in (5) (by omega)]) rfl,
    fun f s W c d j l m a => opv rfl rfl (by simp [go_sem, a.e 42 (d 0 rfl), a.e 45 (d 3 rfl)]) rfl, trivial⟩ ?_
      intro f74 s74 W74 hB74 g74 hg74 z74
      have fB74 := hB74.f fB73
      have b74_0 := hB74.b b73_0
      have b74_1 := hB74.b b73_1
      have b74_2 := hB74.b b73_2
      have b74_3 := hB74.b b73_3
      have b74_4 := hB74.b b73_4
      have q339' := (q333'.below hB74.below)
      have q340' := (q334'.below hB74.below)
      have q341' := (q335'.below hB74.below)
      have q342' := (q336'.below hB74.below)
      have q343' := (q337'.below hB74.below)
      have q344' := (q338'.below hB74.below)
      have k74_1 := kt hg74 1 k73_1
      have k74_2 := kt hg74 2 k73_2
      have k74_3 := kt hg74 3 k73_3
      have k74_4 := kt hg74 4 k73_4
      have k74_5 := kt hg74 5 k73_5
      have k74_8 := kt hg74 8 k73_8
      have k74_9 := kt hg74 9 k73_9
      have k74_46 := kt hg74 46 (hB74.is 4)
      refine wp_cond_true ((fr_eval rfl).trans k74_46) ?_
      refine wp_skip ?_
      refine hK58 _ _ ?_
      refine wp_seq_k fun K61 hK61 => ?_
      refine wp_block ?_
      refine rw_ 5 [(49, 0), (50, 1), (51, 2), (52, 3), (10, 4)] [[], [0], [1], [2], [3]] (rel [iI 2, iI 0, is (.pointer (some ⟨(s5 1), 0, none⟩)), is (.slice (some ⟨gq0, 0, none⟩) n0 c0), is (.slice (some ⟨gq0, 0, none⟩) n0 c0)])
        ⟨fun f s W c d j l m a => opm (a.v 9 k74_9),
    fun f s W c d j l m a => by have qw_ := IntWalk.i64_in (0) (by decide); exact opv rfl rfl (by simp [go_sem, a.e 49 (d 0 rfl), qw_]) rfl,
    fun f s W c d j l m a => opv rfl rfl (by simp [go_sem, a.e 5 k74_5, a.e 50 (d 1 rfl)]) rfl,
    fun f s W c d j l m a => opv rfl rfl (by simp [go_sem, a.e 51 (d 2 rfl), cl (bwb b74_4 c) 0]) rfl,
    fun f s W c d j l m a => opm (a.v 52 (d 3 rfl)), trivial⟩ ?_
      intro f75 s75 W75 hB75 g75 hg75 z75
      have fB75 := hB75.f fB74
      have b75_0 := hB75.b b74_0
      have b75_1 := hB75.b b74_1
      have b75_2 := hB75.b b74_2
      have b75_3 := hB75.b b74_3
      have b75_4 := hB75.b b74_4
      have q345' := (q339'.below hB75.below)
      have q346' := (q340'.below hB75.below)
      have q347' := (q341'.below hB75.below)
      have q348' := (q342'.below hB75.below)
      have q349' := (q343'.below hB75.below)
      have q350' := (q344'.below hB75.below)
      have k75_1 := kt hg75 1 k74_1
      have k75_2 := kt hg75 2 k74_2
      have k75_3 := kt hg75 3 k74_3
      have k75_4 := kt hg75 4 k74_4
      have k75_5 := kt hg75 5 k74_5
      have k75_8 := kt hg75 8 k74_8
      have k75_9 := kt hg75 9 k74_9
      have k75_10 := kt hg75 10 (hB75.is 4)
      refine wp_seq_k fun K63 hK63 => ?_
      refine ry 14 [(53, 0), (54, 1), (55, 2), (56, 3), (57, 4), (58, 5), (59, 6), (60, 7), (61, 8), (62, 9), (63, 10), (64, 11), (65, 12), (66, 13), (67, 14), (68, 15)] [[], [0], [], [], [3], [], [5], [3, 4, 5, 6], [], [8], [3, 5, 7, 8, 9], [2, 3, 5, 8, 9, 10], [2, 3, 5, 8, 9, 10, 11], [2, 3, 5, 8, 9, 10, 11, 12], [0, 1, 2, 3, 4, 5, 6, 7, 8, 9, 10, 11, 12, 13], [0, 1, 2, 3, 4, 5, 6, 7, 8, 9, 10, 11, 12, 13, 14], [0, 1, 2, 3, 4, 5, 6, 7, 8, 9, 10, 11, 12, 13, 14, 15]] (rel [is (.pointer (some ⟨(s2 4), 0, none⟩)), is (.slice (some ⟨ga65, 0, none⟩) 2 ca65), is (.slice (some ⟨gq0, 0, none⟩) n0 c0), is (.pointer (some ⟨(s1 0), 2, none⟩)), is (.slice ay nb cb), iI 2, iI 3, iI ((byAt nb bs 3)), is (.slice (some ⟨gq0, 0, none⟩) n0 c0), iI ((n0 : Int)), iI (((ixW nb bs 3 n0 : Nat) : Int)), is (.pointer (some ⟨gq0, ixW nb bs 3 n0, none⟩)), iI ((elW l0 nb bs 3)), row 13 1 #[.int .i64 ((elW l0 nb bs 3))] 3])
        ⟨fun f s W c d j l m a => opv rfl rfl (by simp [go_sem, a.e 4 k75_4]) rfl,
    fun f s W c d j l m a => opv rfl rfl (by simp [go_sem, a.e 53 (d 0 rfl), cl (bwb b75_3 c) 0]) rfl,
    fun f s W c d j l m a => opm (a.v 10 k75_10),
    fun f s W c d j l m a => opv rfl rfl (by simp [go_sem, a.e 1 k75_1]) rfl,
    fun f s W c d j l m a => opv rfl rfl (by simp [go_sem, a.e 56 (d 3 rfl), cl (bwb b75_0 c) 2]) rfl,
    fun f s W c d j l m a => opm (a.v 9 k75_9),
    fun f s W c d j l m a => opv rfl rfl (by simp [go_sem, a.e 58 (d 5 rfl), IntWalk.i64_in (3) (by omega)]) rfl,
    fun f s W c d j l m a => by have p := bwt fB75 c; exact opc rfl rfl (by simp [go_sem, a.e 57 (d 4 rfl), a.e 59 (d 6 rfl)]) (armByte_any ay nb cb bs 3 W (hT.below p) (by decide)),
    fun f s W c d j l m a => opm (a.v 10 k75_10),
    fun f s W c d j l m a => opv rfl rfl (by simp [go_sem, a.e 61 (d 8 rfl)]) rfl,
    fun f s W c d j l m a => by have qu_ : (byAt nb bs 3).tmod (n0 : Int) = ((ixW nb bs 3 n0 : Nat) : Int) := ix_mod hT 3 n0; have ql_ := ix_lt (n := nb) (bs := bs) (k := 3) hp0; have qw_ := IntWalk.i64_in ((ixW nb bs 3 n0 : Nat) : Int) (by omega); have qz_ : ¬ (n0 : Int) = 0 := (by omega); have qn_ : ¬ n0 = 0 := (by omega); exact opv rfl rfl (by simp [go_sem, a.e 60 (d 7 rfl), a.e 62 (d 9 rfl), qu_, qw_, qz_, qn_]) rfl,
    fun f s W c d j l m a => by have ql_ := ix_lt (n := nb) (bs := bs) (k := 3) hp0; have li_ := Nat.not_le.2 ql_; have li2_ : ((ixW nb bs 3 n0 : Nat) : Int) < (n0 : Int) := (by omega); exact opv rfl rfl (by simp [go_sem, a.e 55 (d 2 rfl), a.e 63 (d 10 rfl), ql_, li_, li2_]) rfl,
    fun f s W c d j l m a => by have cu_ : W.cell? ⟨gq0, ixW nb bs 3 n0, none⟩ = some (.int .i64 (elW l0 nb bs 3)) := elW_cell (q347'.below c) lk6 hp0; exact opv rfl rfl (by simp [go_sem, a.e 64 (d 11 rfl), cu_]) rfl,
    fun f s W c d j l m a => opr rfl rfl (by simp [go_sem, a.e 65 (d 12 rfl)]), trivial⟩ ?_
      intro f76 s76 W76 hB76 g76 hg76 z76
      have fB76 := hB76.f fB75
      have b76_0 := hB76.b b75_0
      have b76_1 := hB76.b b75_1
      have b76_2 := hB76.b b75_2
      have b76_3 := hB76.b b75_3
      have b76_4 := hB76.b b75_4
      have q351' := (q345'.below hB76.below)
      have q352' := (q346'.below hB76.below)
      have q353' := (q347'.below hB76.below)
      have q354' := (q348'.below hB76.below)
      have q355' := (q349'.below hB76.below)
      have q356' := (q350'.below hB76.below)
      obtain ⟨r76_13, br76_13⟩ := hB76.is 13
      have lr76_13 := hB76.lr 13 br76_13
      have k76_54 := kt hg76 54 (hB76.is 1)
      have k76_66 := kt hg76 66 r76_13
      obtain ⟨ga77, ca77, W77, ra77, ow77, ot77, z77, gg77, fB77⟩ := growN_tail 39 39 3 1 8 _ (by kernel_rfl) infoI rfl (iis [(elW l0 nb bs 1), (elW l1 nb bs 2), (elW l0 nb bs 3)]) 3 (off := 0) (k := 1) (c' := 1) [.int .i64 ((elW l0 nb bs 3))] fB76 q355' rfl rfl rfl rfl (cells_at br76_13) (by omega)
      refine tail_value2 (o := _) rfl rfl rfl (run_appendOp (fr_ev k76_54) (fr_ev k76_66) ra77) ?_
      have b77_0 := ot77 _ _ (ownN_ne q355' b76_0) b76_0
      have b77_1 := ot77 _ _ (ownN_ne q355' b76_1) b76_1
      have b77_2 := ot77 _ _ (ownN_ne q355' b76_2) b76_2
      have b77_3 := ot77 _ _ (ownN_ne q355' b76_3) b76_3
      have b77_4 := ot77 _ _ (ownN_ne q355' b76_4) b76_4
      have gn77 : ga77 = ga65 ∨ ga77 = W76.heap.size := gg77.imp (fun e => by cases e; rfl) id
      have lw77 : W20.heap.size ≤ ga77 := by omega
      have q357' := OwnN.otherN q351' q355' ot77 z77
      have q358' := OwnN.otherN q352' q355' ot77 z77
      have q359' := OwnN.otherG q353' ot77 z77 (fun x y e e' => by cases e; cases e'; omega) q355'
      have q360' := OwnN.otherG q354' ot77 z77 (fun x y e e' => by cases e; cases e'; omega) q355'
      have q361' := OwnN.otherG q356' ot77 z77 (fun x y e e' => by cases e; cases e'; omega) q355'
      have nr77 : ga77 ≠ ga70 := by have := (OwnN.lim q356' _ rfl).2; omega
      have on77 : OwnN 3 1 w.heap.size 3 (iis [(elW l0 nb bs 1), (elW l1 nb bs 2), (elW l0 nb bs 3)]) (some ⟨ga77, 0, none⟩) ca77 W77 := .inr ⟨_, rfl, ow77⟩
      generalize hg77 : upd g76 67 (.slice (some ⟨ga77, 0, none⟩) 3 ca77) = g77
      have k77_4 := ku hg77 4 (kt hg76 4 k75_4)
      refine tail_value (o := _) rfl rfl rfl (v := .pointer (some ⟨(s2 4), 0, none⟩)) (by simp [go_sem, frv 87 k77_4]) ?_
      generalize hg78 : upd g77 68 (.pointer (some ⟨(s2 4), 0, none⟩)) = g78
      have k78_1 := ku hg78 1 (ku hg77 1 (kt hg76 1 k75_1))
      have k78_2 := ku hg78 2 (ku hg77 2 (kt hg76 2 k75_2))
      have k78_3 := ku hg78 3 (ku hg77 3 (kt hg76 3 k75_3))
      have k78_4 := ku hg78 4 k77_4
      have k78_5 := ku hg78 5 (ku hg77 5 (kt hg76 5 k75_5))
      have k78_8 := ku hg78 8 (ku hg77 8 (kt hg76 8 k75_8))
      have k78_9 := ku hg78 9 (ku hg77 9 (kt hg76 9 k75_9))
      have k78_67 := ku hg78 67 (kt hg77 67 (upd_same _ _ _))
      have k78_68 := kt hg78 68 (upd_same _ _ _)
      obtain ⟨W79, hW79⟩ : ∃ W', W' = W77.setRow (s2 4) #[.slice (some ⟨ga77, 0, none⟩) 3 ca77, .slice (some ⟨ga70, 0, none⟩) 1 ca70] := ⟨_, rfl⟩
      refine tsk (o := _) rfl ⟨rfl, rfl⟩ (run_seg hW79 (fr_ev k78_68) (fr_ev k78_67) b77_3 rfl rfl rfl rfl) ?_
      obtain ⟨fB79, nb79, ot79, z79⟩ := sgf hW79 fB77 b77_3 (by omega)
      clear hW79
      have b79_0 := ot79 _ _ (by omega) b77_0
      have b79_1 := ot79 _ _ (by omega) b77_1
      have b79_2 := ot79 _ _ (by omega) b77_2
      have b79_4 := ot79 _ _ (by omega) b77_4
      have q362' := q357'.other ot79 (ownN_ne q357' b77_3) z79
      have q363' := q358'.other ot79 (ownN_ne q358' b77_3) z79
      have q364' := q359'.other ot79 (ownN_ne q359' b77_3) z79
      have q365' := q360'.other ot79 (ownN_ne q360' b77_3) z79
      have q366' := q361'.other ot79 (ownN_ne q361' b77_3) z79
      have q367' := on77.other ot79 (ownN_ne on77 b77_3) z79
      refine wpe ?_
      refine hK63 _ _ ?_
      refine rw_ 3 [(69, 0), (70, 1), (71, 2)] [[], [0], [1]] (rel [iI 2, iI 0, iB false])
        ⟨fun f s W c d j l m a => opm (a.v 9 k78_9),
    fun f s W c d j l m a => by have qw_ := IntWalk.i64_in (0) (by decide); exact opv rfl rfl (by simp [go_sem, a.e 69 (d 0 rfl), qw_]) rfl,
    fun f s W c d j l m a => opv rfl rfl (by simp [go_sem, a.e 70 (d 1 rfl)]) rfl, trivial⟩ ?_
      intro f80 s80 W80 hB80 g80 hg80 z80
      have fB80 := hB80.f fB79
      have b80_0 := hB80.b b79_0
      have b80_1 := hB80.b b79_1
      have b80_2 := hB80.b b79_2
      have b80_3 := hB80.b nb79
      have b80_4 := hB80.b b79_4
      have q368' := (q362'.below hB80.below)
      have q369' := (q363'.below hB80.below)
      have q370' := (q364'.below hB80.below)
      have q371' := (q365'.below hB80.below)
      have q372' := (q366'.below hB80.below)
      have q373' := (q367'.below hB80.below)
      have k80_1 := kt hg80 1 k78_1
      have k80_2 := kt hg80 2 k78_2
      have k80_3 := kt hg80 3 k78_3
      have k80_4 := kt hg80 4 k78_4
      have k80_5 := kt hg80 5 k78_5
      have k80_8 := kt hg80 8 k78_8
      have k80_9 := kt hg80 9 k78_9
      have k80_71 := kt hg80 71 (hB80.is 2)
      refine wp_cond_false ((fr_eval rfl).trans k80_71) ?_
      refine wp_skip ?_
      refine ibn ?_
      refine hK61 _ _ ?_
      refine ry 3 [(47, 0), (48, 1), (9, 2)] [[], [0], [0, 1]] (rel [iI 2, iI 3, iI 3])
        ⟨fun f s W c d j l m a => opm (a.v 9 ((l 2 9 rfl rfl).trans k80_9)),
    fun f s W c d j l m a => opv rfl rfl (by simp [go_sem, a.e 47 (d 0 rfl), IntWalk.i64_in (3) (by omega)]) rfl,
    fun f s W c d j l m a => opm (a.v 48 (d 1 rfl)), trivial⟩ ?_
      intro f81 s81 W81 hB81 g81 hg81 z81
      have fB81 := hB81.f fB80
      have b81_0 := hB81.b b80_0
      have b81_1 := hB81.b b80_1
      have b81_2 := hB81.b b80_2
      have b81_3 := hB81.b b80_3
      have b81_4 := hB81.b b80_4
      have q374' := (q368'.below hB81.below)
      have q375' := (q369'.below hB81.below)
      have q376' := (q370'.below hB81.below)
      have q377' := (q371'.below hB81.below)
      have q378' := (q372'.below hB81.below)
      have q379' := (q373'.below hB81.below)
      refine wpe ?_
      have k81_1 := kt hg81 1 k80_1
      have k81_2 := kt hg81 2 k80_2
      have k81_3 := kt hg81 3 k80_3
      have k81_4 := kt hg81 4 k80_4
      have k81_5 := kt hg81 5 k80_5
      have k81_8 := kt hg81 8 k80_8
      have k81_9 := kt hg81 9 (hB81.is 2)
      refine then_normal ?_
      rw [rounds_succ]
      refine wp_seq_k fun K66 hK66 => ?_
      refine rw_ 5 [(42, 0), (43, 1), (44, 2), (45, 3), (46, 4)] [[], [], [1], [2], [0, 3]] (rel [iI 3, iI 2, iI 4, iI 5, iB true])
        ⟨fun f s W c d j l m a => opm (a.v 9 k81_9),
    fun f s W c d j l m a => opm (a.v 8 k81_8),
    fun f s W c d j l m a => opv rfl rfl (by simp [go_sem, a.e 43 (d 1 rfl), IntWalk.i64_in (4) (by omega)]) rfl,
    fun f s W c d j l m a => opv rfl rfl (by simp [go_sem, a.e 44 (d 2 rfl), IntWalk.i64_in (5) (by omega)]) rfl,
    fun f s W c d j l m a => opv rfl rfl (by simp [go_sem, a.e 42 (d 0 rfl), a.e 45 (d 3 rfl)]) rfl, trivial⟩ ?_
      intro f82 s82 W82 hB82 g82 hg82 z82
      have fB82 := hB82.f fB81
      have b82_0 := hB82.b b81_0
      have b82_1 := hB82.b b81_1
      have b82_2 := hB82.b b81_2
      have b82_3 := hB82.b b81_3
      have b82_4 := hB82.b b81_4
      have q380' := (q374'.below hB82.below)
      have q381' := (q375'.below hB82.below)
      have q382' := (q376'.below hB82.below)
      have q383' := (q377'.below hB82.below)
      have q384' := (q378'.below hB82.below)
      have q385' := (q379'.below hB82.below)
      have k82_1 := kt hg82 1 k81_1
      have k82_2 := kt hg82 2 k81_2
      have k82_3 := kt hg82 3 k81_3
      have k82_4 := kt hg82 4 k81_4
      have k82_5 := kt hg82 5 k81_5
      have k82_8 := kt hg82 8 k81_8
      have k82_9 := kt hg82 9 k81_9
      have k82_46 := kt hg82 46 (hB82.is 4)
      refine wp_cond_true ((fr_eval rfl).trans k82_46) ?_
      refine wp_skip ?_
      refine hK66 _ _ ?_
      refine wp_seq_k fun K69 hK69 => ?_
      refine wp_block ?_
      refine rw_ 5 [(49, 0), (50, 1), (51, 2), (52, 3), (10, 4)] [[], [0], [1], [2], [3]] (rel [iI 3, iI 1, is (.pointer (some ⟨(s5 1), 1, none⟩)), is (.slice (some ⟨gq1, 0, none⟩) n1 c1), is (.slice (some ⟨gq1, 0, none⟩) n1 c1)])
        ⟨fun f s W c d j l m a => opm (a.v 9 k82_9),
    fun f s W c d j l m a => by have qw_ := IntWalk.i64_in (1) (by decide); exact opv rfl rfl (by simp [go_sem, a.e 49 (d 0 rfl), qw_]) rfl,
    fun f s W c d j l m a => opv rfl rfl (by simp [go_sem, a.e 5 k82_5, a.e 50 (d 1 rfl)]) rfl,
    fun f s W c d j l m a => opv rfl rfl (by simp [go_sem, a.e 51 (d 2 rfl), cl (bwb b82_4 c) 1]) rfl,
    fun f s W c d j l m a => opm (a.v 52 (d 3 rfl)), trivial⟩ ?_
      intro f83 s83 W83 hB83 g83 hg83 z83
      have fB83 := hB83.f fB82
      have b83_0 := hB83.b b82_0
      have b83_1 := hB83.b b82_1
      have b83_2 := hB83.b b82_2
      have b83_3 := hB83.b b82_3
      have b83_4 := hB83.b b82_4
      have q386' := (q380'.below hB83.below)
      have q387' := (q381'.below hB83.below)
      have q388' := (q382'.below hB83.below)
      have q389' := (q383'.below hB83.below)
      have q390' := (q384'.below hB83.below)
      have q391' := (q385'.below hB83.below)
      have k83_1 := kt hg83 1 k82_1
      have k83_2 := kt hg83 2 k82_2
      have k83_3 := kt hg83 3 k82_3
      have k83_4 := kt hg83 4 k82_4
      have k83_5 := kt hg83 5 k82_5
      have k83_8 := kt hg83 8 k82_8
      have k83_9 := kt hg83 9 k82_9
      have k83_10 := kt hg83 10 (hB83.is 4)
      refine wp_seq_k fun K71 hK71 => ?_
      refine ry 14 [(53, 0), (54, 1), (55, 2), (56, 3), (57, 4), (58, 5), (59, 6), (60, 7), (61, 8), (62, 9), (63, 10), (64, 11), (65, 12), (66, 13), (67, 14), (68, 15)] [[], [0], [], [], [3], [], [5], [3, 4, 5, 6], [], [8], [3, 5, 7, 8, 9], [2, 3, 5, 8, 9, 10], [2, 3, 5, 8, 9, 10, 11], [2, 3, 5, 8, 9, 10, 11, 12], [0, 1, 2, 3, 4, 5, 6, 7, 8, 9, 10, 11, 12, 13], [0, 1, 2, 3, 4, 5, 6, 7, 8, 9, 10, 11, 12, 13, 14], [0, 1, 2, 3, 4, 5, 6, 7, 8, 9, 10, 11, 12, 13, 14, 15]] (rel [is (.pointer (some ⟨(s2 4), 0, none⟩)), is (.slice (some ⟨ga77, 0, none⟩) 3 ca77), is (.slice (some ⟨gq1, 0, none⟩) n1 c1), is (.pointer (some ⟨(s1 0), 2, none⟩)), is (.slice ay nb cb), iI 3, iI 4, iI ((byAt nb bs 4)), is (.slice (some ⟨gq1, 0, none⟩) n1 c1), iI ((n1 : Int)), iI (((ixW nb bs 4 n1 : Nat) : Int)), is (.pointer (some ⟨gq1, ixW nb bs 4 n1, none⟩)), iI ((elW l1 nb bs 4)), row 13 1 #[.int .i64 ((elW l1 nb bs 4))] 3])
        ⟨fun f s W c d j l m a => opv rfl rfl (by simp [go_sem, a.e 4 k83_4]) rfl,
    fun f s W c d j l m a => opv rfl rfl (by simp [go_sem, a.e 53 (d 0 rfl), cl (bwb b83_3 c) 0]) rfl,
    fun f s W c d j l m a => opm (a.v 10 k83_10),
    fun f s W c d j l m a => opv rfl rfl (by simp [go_sem, a.e 1 k83_1]) rfl,
    fun f s W c d j l m a => opv rfl rfl (by simp [go_sem, a.e 56 (d 3 rfl), cl (bwb b83_0 c) 2]) rfl,
    fun f s W c d j l m a => opm (a.v 9 k83_9),
    fun f s W c d j l m a => opv rfl rfl (by simp [go_sem, a.e 58 (d 5 rfl), IntWalk.i64_in (4) (by omega)]) rfl,
    fun f s W c d j l m a => by have p := bwt fB83 c; exact opc rfl rfl (by simp [go_sem, a.e 57 (d 4 rfl), a.e 59 (d 6 rfl)]) (armByte_any ay nb cb bs 4 W (hT.below p) (by decide)),
    fun f s W c d j l m a => opm (a.v 10 k83_10),
    fun f s W c d j l m a => opv rfl rfl (by simp [go_sem, a.e 61 (d 8 rfl)]) rfl,
    fun f s W c d j l m a => by have qu_ : (byAt nb bs 4).tmod (n1 : Int) = ((ixW nb bs 4 n1 : Nat) : Int) := ix_mod hT 4 n1; have ql_ := ix_lt (n := nb) (bs := bs) (k := 4) hp1; have qw_ := IntWalk.i64_in ((ixW nb bs 4 n1 : Nat) : Int) (by omega); have qz_ : ¬ (n1 : Int) = 0 := (by omega); have qn_ : ¬ n1 = 0 := (by omega); exact opv rfl rfl (by simp [go_sem, a.e 60 (d 7 rfl), a.e 62 (d 9 rfl), qu_, qw_, qz_, qn_]) rfl,
    fun f s W c d j l m a => by have ql_ := ix_lt (n := nb) (bs := bs) (k := 4) hp1; have li_ := Nat.not_le.2 ql_; have li2_ : ((ixW nb bs 4 n1 : Nat) : Int) < (n1 : Int) := (by omega); exact opv rfl rfl (by simp [go_sem, a.e 55 (d 2 rfl), a.e 63 (d 10 rfl), ql_, li_, li2_]) rfl,
    fun f s W c d j l m a => by have cu_ : W.cell? ⟨gq1, ixW nb bs 4 n1, none⟩ = some (.int .i64 (elW l1 nb bs 4)) := elW_cell (q389'.below c) lk7 hp1; exact opv rfl rfl (by simp [go_sem, a.e 64 (d 11 rfl), cu_]) rfl,
    fun f s W c d j l m a => opr rfl rfl (by simp [go_sem, a.e 65 (d 12 rfl)]), trivial⟩ ?_
      intro f84 s84 W84 hB84 g84 hg84 z84
      have fB84 := hB84.f fB83
      have b84_0 := hB84.b b83_0
      have b84_1 := hB84.b b83_1
      have b84_2 := hB84.b b83_2
      have b84_3 := hB84.b b83_3
      have b84_4 := hB84.b b83_4
      have q392' := (q386'.below hB84.below)
      have q393' := (q387'.below hB84.below)
      have q394' := (q388'.below hB84.below)
      have q395' := (q389'.below hB84.below)
      have q396' := (q390'.below hB84.below)
      have q397' := (q391'.below hB84.below)
      obtain ⟨r84_13, br84_13⟩ := hB84.is 13
      have lr84_13 := hB84.lr 13 br84_13
      have k84_54 := kt hg84 54 (hB84.is 1)
      have k84_66 := kt hg84 66 r84_13
      obtain ⟨ga85, ca85, W85, ra85, ow85, ot85, z85, gg85, fB85⟩ := growN_tail 39 39 3 1 8 _ (by kernel_rfl) infoI rfl (iis [(elW l0 nb bs 1), (elW l1 nb bs 2), (elW l0 nb bs 3), (elW l1 nb bs 4)]) 4 (off := 0) (k := 1) (c' := 1) [.int .i64 ((elW l1 nb bs 4))] fB84 q397' rfl rfl rfl rfl (cells_at br84_13) (by omega)
      refine tail_value2 (o := _) rfl rfl rfl (run_appendOp (fr_ev k84_54) (fr_ev k84_66) ra85) ?_
      have b85_0 := ot85 _ _ (ownN_ne q397' b84_0) b84_0
      have b85_1 := ot85 _ _ (ownN_ne q397' b84_1) b84_1
      have b85_2 := ot85 _ _ (ownN_ne q397' b84_2) b84_2
      have b85_3 := ot85 _ _ (ownN_ne q397' b84_3) b84_3
      have b85_4 := ot85 _ _ (ownN_ne q397' b84_4) b84_4
      have gn85 : ga85 = ga77 ∨ ga85 = W84.heap.size := gg85.imp (fun e => by cases e; rfl) id
      have lw85 : W20.heap.size ≤ ga85 := by omega
      have q398' := OwnN.otherN q392' q397' ot85 z85
      have q399' := OwnN.otherN q393' q397' ot85 z85
      have q400' := OwnN.otherG q394' ot85 z85 (fun x y e e' => by cases e; cases e'; omega) q397'
      have q401' := OwnN.otherG q395' ot85 z85 (fun x y e e' => by cases e; cases e'; omega) q397'
      have q402' := OwnN.otherG q396' ot85 z85 (fun x y e e' => by cases e; cases e'; omega) q397'
      have nr85 : ga85 ≠ ga70 := by have := (OwnN.lim q396' _ rfl).2; omega
      have on85 : OwnN 3 1 w.heap.size 4 (iis [(elW l0 nb bs 1), (elW l1 nb bs 2), (elW l0 nb bs 3), (elW l1 nb bs 4)]) (some ⟨ga85, 0, none⟩) ca85 W85 := .inr ⟨_, rfl, ow85⟩
      generalize hg85 : upd g84 67 (.slice (some ⟨ga85, 0, none⟩) 4 ca85) = g85
      have k85_4 := ku hg85 4 (kt hg84 4 k83_4)
      refine tail_value (o := _) rfl rfl rfl (v := .pointer (some ⟨(s2 4), 0, none⟩)) (by simp [go_sem, frv 87 k85_4]) ?_
      generalize hg86 : upd g85 68 (.pointer (some ⟨(s2 4), 0, none⟩)) = g86
      have k86_1 := ku hg86 1 (ku hg85 1 (kt hg84 1 k83_1))
      have k86_2 := ku hg86 2 (ku hg85 2 (kt hg84 2 k83_2))
      have k86_3 := ku hg86 3 (ku hg85 3 (kt hg84 3 k83_3))
      have k86_4 := ku hg86 4 k85_4
      have k86_5 := ku hg86 5 (ku hg85 5 (kt hg84 5 k83_5))
      have k86_8 := ku hg86 8 (ku hg85 8 (kt hg84 8 k83_8))
      have k86_9 := ku hg86 9 (ku hg85 9 (kt hg84 9 k83_9))
      have k86_67 := ku hg86 67 (kt hg85 67 (upd_same _ _ _))
      have k86_68 := kt hg86 68 (upd_same _ _ _)
      obtain ⟨W87, hW87⟩ : ∃ W', W' = W85.setRow (s2 4) #[.slice (some ⟨ga85, 0, none⟩) 4 ca85, .slice (some ⟨ga70, 0, none⟩) 1 ca70] := ⟨_, rfl⟩
      refine tsk (o := _) rfl ⟨rfl, rfl⟩ (run_seg hW87 (fr_ev k86_68) (fr_ev k86_67) b85_3 rfl rfl rfl rfl) ?_
      obtain ⟨fB87, nb87, ot87, z87⟩ := sgf hW87 fB85 b85_3 (by omega)
      clear hW87
      have b87_0 := ot87 _ _ (by omega) b85_0
      have b87_1 := ot87 _ _ (by omega) b85_1
      have b87_2 := ot87 _ _ (by omega) b85_2
      have b87_4 := ot87 _ _ (by omega) b85_4
      have q403' := q398'.other ot87 (ownN_ne q398' b85_3) z87
      have q404' := q399'.other ot87 (ownN_ne q399' b85_3) z87
      have q405' := q400'.other ot87 (ownN_ne q400' b85_3) z87
      have q406' := q401'.other ot87 (ownN_ne q401' b85_3) z87
      have q407' := q402'.other ot87 (ownN_ne q402' b85_3) z87
      have q408' := on85.other ot87 (ownN_ne on85 b85_3) z87
      refine wpe ?_
      refine hK71 _ _ ?_
      refine rw_ 3 [(69, 0), (70, 1), (71, 2)] [[], [0], [1]] (rel [iI 3, iI 1, iB true])
        ⟨fun f s W c d j l m a => opm (a.v 9 k86_9),
    fun f s W c d j l m a => by have qw_ := IntWalk.i64_in (1) (by decide); exact opv rfl rfl (by simp [go_sem, a.e 69 (d 0 rfl), qw_]) rfl,
    fun f s W c d j l m a => opv rfl rfl (by simp [go_sem, a.e 70 (d 1 rfl)]) rfl, trivial⟩ ?_
      intro f88 s88 W88 hB88 g88 hg88 z88
      have fB88 := hB88.f fB87
      have b88_0 := hB88.b b87_0
      have b88_1 := hB88.b b87_1
      have b88_2 := hB88.b b87_2
      have b88_3 := hB88.b nb87
      have b88_4 := hB88.b b87_4
      have q409' := (q403'.below hB88.below)
      have q410' := (q404'.below hB88.below)
      have q411' := (q405'.below hB88.below)
      have q412' := (q406'.below hB88.below)
      have q413' := (q407'.below hB88.below)
      have q414' := (q408'.below hB88.below)
      have k88_1 := kt hg88 1 k86_1
      have k88_2 := kt hg88 2 k86_2
      have k88_3 := kt hg88 3 k86_3
      have k88_4 := kt hg88 4 k86_4
      have k88_5 := kt hg88 5 k86_5
      have k88_8 := kt hg88 8 k86_8
      have k88_9 := kt hg88 9 k86_9
      have k88_71 := kt hg88 71 (hB88.is 2)
      refine wp_cond_true ((fr_eval rfl).trans k88_71) ?_
      refine ry 12 [(72, 0), (73, 1), (74, 2), (75, 3), (76, 4), (77, 5), (78, 6), (79, 7), (80, 8), (81, 9), (82, 10), (83, 11), (84, 12), (85, 13)] [[], [0], [], [2], [], [4], [2, 3, 4, 5], [], [7], [7, 8], [2, 4, 6, 7, 8, 9], [2, 4, 7, 8, 9, 10], [0, 1, 2, 3, 4, 5, 6, 7, 8, 9, 10, 11], [0, 1, 2, 3, 4, 5, 6, 7, 8, 9, 10, 11, 12], [0, 1, 2, 3, 4, 5, 6, 7, 8, 9, 10, 11, 12, 13]] (rel [is (.pointer (some ⟨(s2 4), 1, none⟩)), is (.slice (some ⟨ga70, 0, none⟩) 1 ca70), is (.pointer (some ⟨(s1 0), 2, none⟩)), is (.slice ay nb cb), iI 3, iI 9, iI ((byAt nb bs 9)), is (.pointer (some ⟨(s2 3), 1, none⟩)), is (.slice (some ⟨g2', 0, none⟩) nF c4'), iI ((nF : Int)), iI (((ixW nb bs 9 nF : Nat) : Int)), row 11 1 #[.int .i64 (((ixW nb bs 9 nF : Nat) : Int))] 3])
        ⟨fun f s W c d j l m a => opv rfl rfl (by simp [go_sem, a.e 4 k88_4]) rfl,
    fun f s W c d j l m a => opv rfl rfl (by simp [go_sem, a.e 72 (d 0 rfl), cl (bwb b88_3 c) 1]) rfl,
    fun f s W c d j l m a => opv rfl rfl (by simp [go_sem, a.e 1 k88_1]) rfl,
    fun f s W c d j l m a => opv rfl rfl (by simp [go_sem, a.e 74 (d 2 rfl), cl (bwb b88_0 c) 2]) rfl,
    fun f s W c d j l m a => opm (a.v 9 k88_9),
    fun f s W c d j l m a => opv rfl rfl (by simp [go_sem, a.e 76 (d 4 rfl), IntWalk.i64_in (9) (by omega)]) rfl,
    fun f s W c d j l m a => by have p := bwt fB88 c; exact opc rfl rfl (by simp [go_sem, a.e 75 (d 3 rfl), a.e 77 (d 5 rfl)]) (armByte_any ay nb cb bs 9 W (hT.below p) (by decide)),
    fun f s W c d j l m a => opv rfl rfl (by simp [go_sem, a.e 3 k88_3]) rfl,
    fun f s W c d j l m a => opv rfl rfl (by simp [go_sem, a.e 79 (d 7 rfl), cl (bwb b88_2 c) 1]) rfl,
    fun f s W c d j l m a => opv rfl rfl (by simp [go_sem, a.e 80 (d 8 rfl)]) rfl,
    fun f s W c d j l m a => by have qu_ : (byAt nb bs 9).tmod (nF : Int) = ((ixW nb bs 9 nF : Nat) : Int) := ix_mod hT 9 nF; have ql_ := ix_lt (n := nb) (bs := bs) (k := 9) hpF; have qw_ := IntWalk.i64_in ((ixW nb bs 9 nF : Nat) : Int) (by omega); have qz_ : ¬ (nF : Int) = 0 := (by omega); have qn_ : ¬ nF = 0 := (by omega); exact opv rfl rfl (by simp [go_sem, a.e 78 (d 6 rfl), a.e 81 (d 9 rfl), qu_, qw_, qz_, qn_]) rfl,
    fun f s W c d j l m a => opr rfl rfl (by simp [go_sem, a.e 82 (d 10 rfl)]), trivial⟩ ?_
      intro f89 s89 W89 hB89 g89 hg89 z89
      have fB89 := hB89.f fB88
      have b89_0 := hB89.b b88_0
      have b89_1 := hB89.b b88_1
      have b89_3 := hB89.b b88_3
      have b89_4 := hB89.b b88_4
      have q415' := (q409'.below hB89.below)
      have q416' := (q410'.below hB89.below)
      have q417' := (q411'.below hB89.below)
      have q418' := (q412'.below hB89.below)
      have q419' := (q413'.below hB89.below)
      have q420' := (q414'.below hB89.below)
      obtain ⟨r89_11, br89_11⟩ := hB89.is 11
      have lr89_11 := hB89.lr 11 br89_11
      have k89_73 := kt hg89 73 (hB89.is 1)
      have k89_83 := kt hg89 83 r89_11
      obtain ⟨ga90, ca90, W90, ra90, ow90, ot90, z90, gg90, fB90⟩ := growN_tail 39 39 3 1 8 _ (by kernel_rfl) infoI rfl (iis [((ixW nb bs 7 nF : Nat) : Int), ((ixW nb bs 9 nF : Nat) : Int)]) 2 (off := 0) (k := 1) (c' := 1) [.int .i64 (((ixW nb bs 9 nF : Nat) : Int))] fB89 q419' rfl rfl rfl rfl (cells_at br89_11) (by omega)
      refine tail_value2 (o := _) rfl rfl rfl (run_appendOp (fr_ev k89_73) (fr_ev k89_83) ra90) ?_
      have b90_0 := ot90 _ _ (ownN_ne q419' b89_0) b89_0
      have b90_1 := ot90 _ _ (ownN_ne q419' b89_1) b89_1
      have b90_3 := ot90 _ _ (ownN_ne q419' b89_3) b89_3
      have b90_4 := ot90 _ _ (ownN_ne q419' b89_4) b89_4
      have gn90 : ga90 = ga70 ∨ ga90 = W89.heap.size := gg90.imp (fun e => by cases e; rfl) id
      have lw90 : W20.heap.size ≤ ga90 := by omega
      have q421' := OwnN.otherN q415' q419' ot90 z90
      have q422' := OwnN.otherN q416' q419' ot90 z90
      have q423' := OwnN.otherG q417' ot90 z90 (fun x y e e' => by cases e; cases e'; omega) q419'
      have q424' := OwnN.otherG q418' ot90 z90 (fun x y e e' => by cases e; cases e'; omega) q419'
      have q425' := OwnN.otherG q420' ot90 z90 (fun x y e e' => by cases e; cases e'; omega) q419'
      have nr90 : ga90 ≠ ga85 := by have := (OwnN.lim q420' _ rfl).2; omega
      have on90 : OwnN 3 1 w.heap.size 2 (iis [((ixW nb bs 7 nF : Nat) : Int), ((ixW nb bs 9 nF : Nat) : Int)]) (some ⟨ga90, 0, none⟩) ca90 W90 := .inr ⟨_, rfl, ow90⟩
      generalize hg90 : upd g89 84 (.slice (some ⟨ga90, 0, none⟩) 2 ca90) = g90
      have k90_4 := ku hg90 4 (kt hg89 4 k88_4)
      refine tail_value (o := _) rfl rfl rfl (v := .pointer (some ⟨(s2 4), 1, none⟩)) (by simp [go_sem, frv 87 k90_4]) ?_
      generalize hg91 : upd g90 85 (.pointer (some ⟨(s2 4), 1, none⟩)) = g91
      have k91_1 := ku hg91 1 (ku hg90 1 (kt hg89 1 k88_1))
      have k91_2 := ku hg91 2 (ku hg90 2 (kt hg89 2 k88_2))
      have k91_4 := ku hg91 4 k90_4
      have k91_5 := ku hg91 5 (ku hg90 5 (kt hg89 5 k88_5))
      have k91_8 := ku hg91 8 (ku hg90 8 (kt hg89 8 k88_8))
      have k91_9 := ku hg91 9 (ku hg90 9 (kt hg89 9 k88_9))
      have k91_84 := ku hg91 84 (kt hg90 84 (upd_same _ _ _))
      have k91_85 := kt hg91 85 (upd_same _ _ _)
      obtain ⟨W92, hW92⟩ : ∃ W', W' = W90.setRow (s2 4) #[.slice (some ⟨ga85, 0, none⟩) 4 ca85, .slice (some ⟨ga90, 0, none⟩) 2 ca90] := ⟨_, rfl⟩
      refine tsk (o := _) rfl ⟨rfl, rfl⟩ (run_seg hW92 (fr_ev k91_85) (fr_ev k91_84) b90_3 rfl rfl rfl rfl) ?_
      obtain ⟨fB92, nb92, ot92, z92⟩ := sgf hW92 fB90 b90_3 (by omega)
      clear hW92
      have b92_0 := ot92 _ _ (by omega) b90_0
      have b92_1 := ot92 _ _ (by omega) b90_1
      have b92_4 := ot92 _ _ (by omega) b90_4
      have q426' := q421'.other ot92 (ownN_ne q421' b90_3) z92
      have q427' := q422'.other ot92 (ownN_ne q422' b90_3) z92
      have q428' := q423'.other ot92 (ownN_ne q423' b90_3) z92
      have q429' := q424'.other ot92 (ownN_ne q424' b90_3) z92
      have q430' := q425'.other ot92 (ownN_ne q425' b90_3) z92
      have q431' := on90.other ot92 (ownN_ne on90 b90_3) z92
      refine wpe ?_
      refine ibn ?_
      refine hK69 _ _ ?_
      refine ry 3 [(47, 0), (48, 1), (9, 2)] [[], [0], [0, 1]] (rel [iI 3, iI 4, iI 4])
        ⟨fun f s W c d j l m a => opm (a.v 9 ((l 2 9 rfl rfl).trans k91_9)),
    fun f s W c d j l m a => opv rfl rfl (by simp [go_sem, a.e 47 (d 0 rfl), IntWalk.i64_in (4) (by omega)]) rfl,
    fun f s W c d j l m a => opm (a.v 48 (d 1 rfl)), trivial⟩ ?_
      intro f93 s93 W93 hB93 g93 hg93 z93
      have fB93 := hB93.f fB92
      have b93_0 := hB93.b b92_0
      have b93_1 := hB93.b b92_1
      have b93_3 := hB93.b nb92
      have b93_4 := hB93.b b92_4
      have q432' := (q426'.below hB93.below)
      have q433' := (q427'.below hB93.below)
      have q434' := (q428'.below hB93.below)
      have q435' := (q429'.below hB93.below)
      have q436' := (q430'.below hB93.below)
      have q437' := (q431'.below hB93.below)
      refine wpe ?_
      have k93_1 := kt hg93 1 k91_1
      have k93_2 := kt hg93 2 k91_2
      have k93_4 := kt hg93 4 k91_4
      have k93_5 := kt hg93 5 k91_5
      have k93_8 := kt hg93 8 k91_8
      have k93_9 := kt hg93 9 (hB93.is 2)
      refine then_normal ?_
      rw [rounds_succ]
      refine wp_seq_k fun K74 hK74 => ?_
      refine rw_ 5 [(42, 0), (43, 1), (44, 2), (45, 3), (46, 4)] [[], [], [1], [2], [0, 3]] (rel [iI 4, iI 2, iI 4, iI 5, iB true])
        ⟨fun f s W c d j l m a => opm (a.v 9 k93_9),
    fun f s W c d j l m a => opm (a.v 8 k93_8),
    fun f s W c d j l m a => opv rfl rfl (by simp [go_sem, a.e 43 (d 1 rfl), IntWalk.i64_in (4) (by omega)]) rfl,
    fun f s W c d j l m a => opv rfl rfl (by simp [go_sem, a.e 44 (d 2 rfl), IntWalk.i64_in (5) (by omega)]) rfl,
    fun f s W c d j l m a => opv rfl rfl (by simp [go_sem, a.e 42 (d 0 rfl), a.e 45 (d 3 rfl)]) rfl, trivial⟩ ?_
      intro f94 s94 W94 hB94 g94 hg94 z94
      have fB94 := hB94.f fB93
      have b94_0 := hB94.b b93_0
      have b94_1 := hB94.b b93_1
      have b94_3 := hB94.b b93_3
      have b94_4 := hB94.b b93_4
      have q438' := (q432'.below hB94.below)
      have q439' := (q433'.below hB94.below)
      have q440' := (q434'.below hB94.below)
      have q441' := (q435'.below hB94.below)
      have q442' := (q436'.below hB94.below)
      have q443' := (q437'.below hB94.below)
      have k94_1 := kt hg94 1 k93_1
      have k94_2 := kt hg94 2 k93_2
      have k94_4 := kt hg94 4 k93_4
      have k94_5 := kt hg94 5 k93_5
      have k94_8 := kt hg94 8 k93_8
      have k94_9 := kt hg94 9 k93_9
      have k94_46 := kt hg94 46 (hB94.is 4)
      refine wp_cond_true ((fr_eval rfl).trans k94_46) ?_
      refine wp_skip ?_
      refine hK74 _ _ ?_
      refine wp_seq_k fun K77 hK77 => ?_
      refine wp_block ?_
      refine rw_ 5 [(49, 0), (50, 1), (51, 2), (52, 3), (10, 4)] [[], [0], [1], [2], [3]] (rel [iI 4, iI 0, is (.pointer (some ⟨(s5 1), 0, none⟩)), is (.slice (some ⟨gq0, 0, none⟩) n0 c0), is (.slice (some ⟨gq0, 0, none⟩) n0 c0)])
        ⟨fun f s W c d j l m a => opm (a.v 9 k94_9),
    fun f s W c d j l m a => by have qw_ := IntWalk.i64_in (0) (by decide); exact opv rfl rfl (by simp [go_sem, a.e 49 (d 0 rfl), qw_]) rfl,
    fun f s W c d j l m a => opv rfl rfl (by simp [go_sem, a.e 5 k94_5, a.e 50 (d 1 rfl)]) rfl,
    fun f s W c d j l m a => opv rfl rfl (by simp [go_sem, a.e 51 (d 2 rfl), cl (bwb b94_4 c) 0]) rfl,
    fun f s W c d j l m a => opm (a.v 52 (d 3 rfl)), trivial⟩ ?_
      intro f95 s95 W95 hB95 g95 hg95 z95
      have fB95 := hB95.f fB94
      have b95_0 := hB95.b b94_0
      have b95_1 := hB95.b b94_1
      have b95_3 := hB95.b b94_3
      have q444' := (q438'.below hB95.below)
      have q445' := (q439'.below hB95.below)
      have q446' := (q440'.below hB95.below)
      have q447' := (q441'.below hB95.below)
      have q448' := (q442'.below hB95.below)
      have q449' := (q443'.below hB95.below)
      have k95_1 := kt hg95 1 k94_1
      have k95_2 := kt hg95 2 k94_2
      have k95_4 := kt hg95 4 k94_4
      have k95_8 := kt hg95 8 k94_8
      have k95_9 := kt hg95 9 k94_9
      have k95_10 := kt hg95 10 (hB95.is 4)
      refine wp_seq_k fun K79 hK79 => ?_
      refine ry 14 [(53, 0), (54, 1), (55, 2), (56, 3), (57, 4), (58, 5), (59, 6), (60, 7), (61, 8), (62, 9), (63, 10), (64, 11), (65, 12), (66, 13), (67, 14), (68, 15)] [[], [0], [], [], [3], [], [5], [3, 4, 5, 6], [], [8], [3, 5, 7, 8, 9], [2, 3, 5, 8, 9, 10], [2, 3, 5, 8, 9, 10, 11], [2, 3, 5, 8, 9, 10, 11, 12], [0, 1, 2, 3, 4, 5, 6, 7, 8, 9, 10, 11, 12, 13], [0, 1, 2, 3, 4, 5, 6, 7, 8, 9, 10, 11, 12, 13, 14], [0, 1, 2, 3, 4, 5, 6, 7, 8, 9, 10, 11, 12, 13, 14, 15]] (rel [is (.pointer (some ⟨(s2 4), 0, none⟩)), is (.slice (some ⟨ga85, 0, none⟩) 4 ca85), is (.slice (some ⟨gq0, 0, none⟩) n0 c0), is (.pointer (some ⟨(s1 0), 2, none⟩)), is (.slice ay nb cb), iI 4, iI 5, iI ((byAt nb bs 5)), is (.slice (some ⟨gq0, 0, none⟩) n0 c0), iI ((n0 : Int)), iI (((ixW nb bs 5 n0 : Nat) : Int)), is (.pointer (some ⟨gq0, ixW nb bs 5 n0, none⟩)), iI ((elW l0 nb bs 5)), row 13 1 #[.int .i64 ((elW l0 nb bs 5))] 3])
        ⟨fun f s W c d j l m a => opv rfl rfl (by simp [go_sem, a.e 4 k95_4]) rfl,
    fun f s W c d j l m a => opv rfl rfl (by simp [go_sem, a.e 53 (d 0 rfl), cl (bwb b95_3 c) 0]) rfl,
    fun f s W c d j l m a => opm (a.v 10 k95_10),
    fun f s W c d j l m a => opv rfl rfl (by simp [go_sem, a.e 1 k95_1]) rfl,
    fun f s W c d j l m a => opv rfl rfl (by simp [go_sem, a.e 56 (d 3 rfl), cl (bwb b95_0 c) 2]) rfl,
    fun f s W c d j l m a => opm (a.v 9 k95_9),
    fun f s W c d j l m a => opv rfl rfl (by simp [go_sem, a.e 58 (d 5 rfl), IntWalk.i64_in (5) (by omega)]) rfl,
    fun f s W c d j l m a => by have p := bwt fB95 c; exact opc rfl rfl (by simp [go_sem, a.e 57 (d 4 rfl), a.e 59 (d 6 rfl)]) (armByte_any ay nb cb bs 5 W (hT.below p) (by decide)),
    fun f s W c d j l m a => opm (a.v 10 k95_10),
    fun f s W c d j l m a => opv rfl rfl (by simp [go_sem, a.e 61 (d 8 rfl)]) rfl,
    fun f s W c d j l m a => by have qu_ : (byAt nb bs 5).tmod (n0 : Int) = ((ixW nb bs 5 n0 : Nat) : Int) := ix_mod hT 5 n0; have ql_ := ix_lt (n := nb) (bs := bs) (k := 5) hp0; have qw_ := IntWalk.i64_in ((ixW nb bs 5 n0 : Nat) : Int) (by omega); have qz_ : ¬ (n0 : Int) = 0 := (by omega); have qn_ : ¬ n0 = 0 := (by omega); exact opv rfl rfl (by simp [go_sem, a.e 60 (d 7 rfl), a.e 62 (d 9 rfl), qu_, qw_, qz_, qn_]) rfl,
    fun f s W c d j l m a => by have ql_ := ix_lt (n := nb) (bs := bs) (k := 5) hp0; have li_ := Nat.not_le.2 ql_; have li2_ : ((ixW nb bs 5 n0 : Nat) : Int) < (n0 : Int) := (by omega); exact opv rfl rfl (by simp [go_sem, a.e 55 (d 2 rfl), a.e 63 (d 10 rfl), ql_, li_, li2_]) rfl,
    fun f s W c d j l m a => by have cu_ : W.cell? ⟨gq0, ixW nb bs 5 n0, none⟩ = some (.int .i64 (elW l0 nb bs 5)) := elW_cell (q446'.below c) lk6 hp0; exact opv rfl rfl (by simp [go_sem, a.e 64 (d 11 rfl), cu_]) rfl,
    fun f s W c d j l m a => opr rfl rfl (by simp [go_sem, a.e 65 (d 12 rfl)]), trivial⟩ ?_
      intro f96 s96 W96 hB96 g96 hg96 z96
      have fB96 := hB96.f fB95
      have b96_1 := hB96.b b95_1
      have b96_3 := hB96.b b95_3
      have q450' := (q444'.below hB96.below)
      have q451' := (q445'.below hB96.below)
      have q452' := (q446'.below hB96.below)
      have q453' := (q447'.below hB96.below)
      have q454' := (q448'.below hB96.below)
      have q455' := (q449'.below hB96.below)
      obtain ⟨r96_13, br96_13⟩ := hB96.is 13
      have lr96_13 := hB96.lr 13 br96_13
      have k96_54 := kt hg96 54 (hB96.is 1)
      have k96_66 := kt hg96 66 r96_13
      obtain ⟨ga97, ca97, W97, ra97, ow97, ot97, z97, gg97, fB97⟩ := growN_tail 39 39 3 1 8 _ (by kernel_rfl) infoI rfl (iis [(elW l0 nb bs 1), (elW l1 nb bs 2), (elW l0 nb bs 3), (elW l1 nb bs 4), (elW l0 nb bs 5)]) 5 (off := 0) (k := 1) (c' := 1) [.int .i64 ((elW l0 nb bs 5))] fB96 q454' rfl rfl rfl rfl (cells_at br96_13) (by omega)
      refine tail_value2 (o := _) rfl rfl rfl (run_appendOp (fr_ev k96_54) (fr_ev k96_66) ra97) ?_
      have b97_1 := ot97 _ _ (ownN_ne q454' b96_1) b96_1
      have b97_3 := ot97 _ _ (ownN_ne q454' b96_3) b96_3
      have gn97 : ga97 = ga85 ∨ ga97 = W96.heap.size := gg97.imp (fun e => by cases e; rfl) id
      have lw97 : W20.heap.size ≤ ga97 := by omega
      have q456' := OwnN.otherN q450' q454' ot97 z97
      have q457' := OwnN.otherN q451' q454' ot97 z97
      have q458' := OwnN.otherG q452' ot97 z97 (fun x y e e' => by cases e; cases e'; omega) q454'
      have q459' := OwnN.otherG q453' ot97 z97 (fun x y e e' => by cases e; cases e'; omega) q454'
      have q460' := OwnN.otherG q455' ot97 z97 (fun x y e e' => by cases e; cases e'; omega) q454'
      have nr97 : ga97 ≠ ga90 := by have := (OwnN.lim q455' _ rfl).2; omega
      have on97 : OwnN 3 1 w.heap.size 5 (iis [(elW l0 nb bs 1), (elW l1 nb bs 2), (elW l0 nb bs 3), (elW l1 nb bs 4), (elW l0 nb bs 5)]) (some ⟨ga97, 0, none⟩) ca97 W97 := .inr ⟨_, rfl, ow97⟩
      generalize hg97 : upd g96 67 (.slice (some ⟨ga97, 0, none⟩) 5 ca97) = g97
      have k97_4 := ku hg97 4 (kt hg96 4 k95_4)
      refine tail_value (o := _) rfl rfl rfl (v := .pointer (some ⟨(s2 4), 0, none⟩)) (by simp [go_sem, frv 87 k97_4]) ?_
      generalize hg98 : upd g97 68 (.pointer (some ⟨(s2 4), 0, none⟩)) = g98
      have k98_2 := ku hg98 2 (ku hg97 2 (kt hg96 2 k95_2))
      have k98_4 := ku hg98 4 k97_4
      have k98_8 := ku hg98 8 (ku hg97 8 (kt hg96 8 k95_8))
      have k98_9 := ku hg98 9 (ku hg97 9 (kt hg96 9 k95_9))
      have k98_67 := ku hg98 67 (kt hg97 67 (upd_same _ _ _))
      have k98_68 := kt hg98 68 (upd_same _ _ _)
      obtain ⟨W99, hW99⟩ : ∃ W', W' = W97.setRow (s2 4) #[.slice (some ⟨ga97, 0, none⟩) 5 ca97, .slice (some ⟨ga90, 0, none⟩) 2 ca90] := ⟨_, rfl⟩
      refine tsk (o := _) rfl ⟨rfl, rfl⟩ (run_seg hW99 (fr_ev k98_68) (fr_ev k98_67) b97_3 rfl rfl rfl rfl) ?_
      obtain ⟨fB99, nb99, ot99, z99⟩ := sgf hW99 fB97 b97_3 (by omega)
      clear hW99
      have b99_1 := ot99 _ _ (by omega) b97_1
      have q461' := q456'.other ot99 (ownN_ne q456' b97_3) z99
      have q462' := q457'.other ot99 (ownN_ne q457' b97_3) z99
      have q463' := q458'.other ot99 (ownN_ne q458' b97_3) z99
      have q464' := q459'.other ot99 (ownN_ne q459' b97_3) z99
      have q465' := q460'.other ot99 (ownN_ne q460' b97_3) z99
      have q466' := on97.other ot99 (ownN_ne on97 b97_3) z99
      refine wpe ?_
      refine hK79 _ _ ?_
      refine rw_ 3 [(69, 0), (70, 1), (71, 2)] [[], [0], [1]] (rel [iI 4, iI 0, iB false])
        ⟨fun f s W c d j l m a => opm (a.v 9 k98_9),
    fun f s W c d j l m a => by have qw_ := IntWalk.i64_in (0) (by decide); exact opv rfl rfl (by simp [go_sem, a.e 69 (d 0 rfl), qw_]) rfl,
    fun f s W c d j l m a => opv rfl rfl (by simp [go_sem, a.e 70 (d 1 rfl)]) rfl, trivial⟩ ?_
      intro f100 s100 W100 hB100 g100 hg100 z100
      have fB100 := hB100.f fB99
      have b100_1 := hB100.b b99_1
      have b100_3 := hB100.b nb99
      have q467' := (q461'.below hB100.below)
      have q468' := (q462'.below hB100.below)
      have q469' := (q463'.below hB100.below)
      have q470' := (q464'.below hB100.below)
      have q471' := (q465'.below hB100.below)
      have q472' := (q466'.below hB100.below)
      have k100_2 := kt hg100 2 k98_2
      have k100_4 := kt hg100 4 k98_4
      have k100_8 := kt hg100 8 k98_8
      have k100_9 := kt hg100 9 k98_9
      have k100_71 := kt hg100 71 (hB100.is 2)
      refine wp_cond_false ((fr_eval rfl).trans k100_71) ?_
      refine wp_skip ?_
      refine ibn ?_
      refine hK77 _ _ ?_
      refine ry 3 [(47, 0), (48, 1), (9, 2)] [[], [0], [0, 1]] (rel [iI 4, iI 5, iI 5])
        ⟨fun f s W c d j l m a => opm (a.v 9 ((l 2 9 rfl rfl).trans k100_9)),
    fun f s W c d j l m a => opv rfl rfl (by simp [go_sem, a.e 47 (d 0 rfl), IntWalk.i64_in (5) (by omega)]) rfl,
    fun f s W c d j l m a => opm (a.v 48 (d 1 rfl)), trivial⟩ ?_
      intro f101 s101 W101 hB101 g101 hg101 z101
      have fB101 := hB101.f fB100
      have b101_1 := hB101.b b100_1
      have b101_3 := hB101.b b100_3
      have q473' := (q467'.below hB101.below)
      have q474' := (q468'.below hB101.below)
      have q475' := (q469'.below hB101.below)
      have q476' := (q470'.below hB101.below)
      have q477' := (q471'.below hB101.below)
      have q478' := (q472'.below hB101.below)
      refine wpe ?_
      have k101_2 := kt hg101 2 k100_2
      have k101_4 := kt hg101 4 k100_4
      have k101_8 := kt hg101 8 k100_8
      have k101_9 := kt hg101 9 (hB101.is 2)
      refine then_normal ?_
      rw [rounds_succ]
      refine wp_seq_k fun K82 hK82 => ?_
      refine rw_ 5 [(42, 0), (43, 1), (44, 2), (45, 3), (46, 4)] [[], [], [1], [2], [0, 3]] (rel [iI 5, iI 2, iI 4, iI 5, iB false])
        ⟨fun f s W c d j l m a => opm (a.v 9 k101_9),
    fun f s W c d j l m a => opm (a.v 8 k101_8),
    fun f s W c d j l m a => opv rfl rfl (by simp [go_sem, a.e 43 (d 1 rfl), IntWalk.i64_in (4) (by omega)]) rfl,
    fun f s W c d j l m a => opv rfl rfl (by simp [go_sem, a.e 44 (d 2 rfl), IntWalk.i64_in (5) (by omega)]) rfl,
    fun f s W c d j l m a => opv rfl rfl (by simp [go_sem, a.e 42 (d 0 rfl), a.e 45 (d 3 rfl)]) rfl, trivial⟩ ?_
      intro f102 s102 W102 hB102 g102 hg102 z102
      have b102_3 := hB102.b b101_3
      have q479' := (q473'.below hB102.below)
      have q480' := (q474'.below hB102.below)
      have q481' := (q475'.below hB102.below)
      have q482' := (q476'.below hB102.below)
      have q483' := (q477'.below hB102.below)
      have q484' := (q478'.below hB102.below)
      have k102_4 := kt hg102 4 k101_4
      have k102_46 := kt hg102 46 (hB102.is 4)
      refine wp_cond_false ((fr_eval rfl).trans k102_46) ?_
      refine wp_exit ?_
      refine then_exit ?_
      refine then_exit ?_
      refine inBlock_at ?_
      refine hK12 _ _ ?_
      refine wp_seq_k fun K85 hK85 => ?_
      refine ry 1 [(86, 0)] [[], [0]] (rel [is (.agg #[.slice (some ⟨ga97, 0, none⟩) 5 ca97, .slice (some ⟨ga90, 0, none⟩) 2 ca90])])
        ⟨fun f s W c d j l m a => opv rfl rfl (by simp [go_sem, a.e 4 k102_4, cl (bwb b102_3 c) 0, cl (bwb b102_3 c) 1]) rfl, trivial⟩ ?_
      intro f103 s103 W103 hB103 g103 hg103 z103
      have fB103 := hB103.f (hB102.f fB101)
      have b103_1 := hB103.b (hB102.b b101_1)
      have q485' := (q479'.below hB103.below)
      have q486' := (q480'.below hB103.below)
      have q487' := (q481'.below hB103.below)
      have q488' := (q482'.below hB103.below)
      have q489' := (q483'.below hB103.below)
      have q490' := (q484'.below hB103.below)
      have k103_2 := kt hg103 2 (kt hg102 2 k101_2)
      have k103_86 := kt hg103 86 (hB103.is 0)
      obtain ⟨W104, hW104⟩ : ∃ W', W' = W103.setRow (s1 1) #[.slice (some ⟨ga97, 0, none⟩) 5 ca97, .slice (some ⟨ga90, 0, none⟩) 2 ca90] := ⟨_, rfl⟩
      refine tsk (o := _) rfl ⟨rfl, rfl⟩ (run_seg hW104 (fr_ev k103_2) (fr_ev k103_86) b103_1 rfl rfl rfl rfl) ?_
      obtain ⟨fB104, nb104, ot104, z104⟩ := sgf hW104 fB103 b103_1 (by omega)
      clear hW104
      have q491' := q485'.other ot104 (ownN_ne q485' b103_1) z104
      have q492' := q486'.other ot104 (ownN_ne q486' b103_1) z104
      have q493' := q487'.other ot104 (ownN_ne q487' b103_1) z104
      have q494' := q488'.other ot104 (ownN_ne q488' b103_1) z104
      have q495' := q489'.other ot104 (ownN_ne q489' b103_1) z104
      have q496' := q490'.other ot104 (ownN_ne q490' b103_1) z104
      refine wpe ?_
      refine hK85 _ _ ?_
      refine wp_ret ?_
      refine leave_gen (v := .agg #[.slice (some ⟨ga97, 0, none⟩) 5 ca97, .slice (some ⟨ga90, 0, none⟩) 2 ca90]) (.inr rfl) (by simp [results, Try.results16, go_sem, frv 87 k103_2, cl nb104 0, cl nb104 1]) ?_
      exact ⟨_, rfl, mk2_of hfl (OwnN.row q496') (OwnN.row q495') (by rw [hiP] at lk1 lk2; exact (kiL_el lk1 (by omega) 1).1) (by rw [hiP] at lk1 lk2; exact (kiL_el lk2 (by omega) 2).1) (by rw [hiP] at lk1 lk2; exact (kiL_el lk1 (by omega) 3).1) (by rw [hiP] at lk1 lk2; exact (kiL_el lk2 (by omega) 4).1) (by rw [hiP] at lk1 lk2; exact (kiL_el lk1 (by omega) 5).1), fB104⟩
end Go.Proofs.Ytolnpbpeifpbjaa
