/- Part of the proof: what the claim leans on. -/
import Derived.Test.YtcgccflcjejlhaaVAV
import Derived.Test.YtcgccflcjejlhaaVAS
set_option maxHeartbeats 16000000
set_option maxRecDepth 100000
set_option linter.unusedSimpArgs false
set_option linter.unusedVariables false
namespace Go.Proofs.Ytcgccflcjejlhaa
open Go.RowKit
def IsI (v : Value) : Prop := ∃ x : Int, v = .int .i64 x
def rsM (tl : Int) (ss : Nat → Int × Int) (t : Int) : Nat → Int × Int
  | 0 => (t, t)
  | i + 1 => (max 0 ((rsM tl ss t i).1 - (ss i).1 + tl), max 0 ((rsM tl ss t i).2 - (ss i).2 + tl))
def rsF (tl : Int) (ss : Nat → Int × Int) (t : Int) (i : Nat) : Int × Int := (max tl ((ss i).1 - (rsM tl ss t i).1), max tl ((ss i).2 - (rsM tl ss t i).2))
theorem rsM_bd {tl t : Int} {ss : Nat → Int × Int} {n : Nat} (ht : 0 ≤ tl ∧ tl ≤ 10000) (h0 : 0 ≤ t ∧ t ≤ 100000000000) (ho : ∀ i, i < n → RoIn tl (ss i)) : ∀ i, i ≤ n → (0 ≤ (rsM tl ss t i).1 ∧ (rsM tl ss t i).1 ≤ t) ∧ 0 ≤ (rsM tl ss t i).2 ∧ (rsM tl ss t i).2 ≤ t
  | 0, _ => ⟨⟨h0.1, Int.le_refl _⟩, h0.1, Int.le_refl _⟩
  | i + 1, h => by
    have ih := rsM_bd ht h0 ho i (by omega)
    have hi := (ho i (by omega)).h
    show (0 ≤ max 0 ((rsM tl ss t i).1 - (ss i).1 + tl) ∧ max 0 ((rsM tl ss t i).1 - (ss i).1 + tl) ≤ t) ∧ 0 ≤ max 0 ((rsM tl ss t i).2 - (ss i).2 + tl) ∧ max 0 ((rsM tl ss t i).2 - (ss i).2 + tl) ≤ t
    omega
theorem ownN_spL {B n c : Nat} {ss : Nat → Int × Int} {a : Option Addr} {W : World} (h : OwnN 43 2 B n (rowC (spC ss) n) a c W) : SpL W a n ss := by
  rcases h with ⟨_, h, _⟩ | ⟨g, rfl, h⟩
  · exact .inl (by first | exact h | (have := congrArg List.length h; rw [rowC_len (z := 2) (fun _ => rfl)] at this; simp at this; omega))
  · refine .inr ⟨g, 0, rfl, h.2.1, fun i hi => ⟨?_, ?_⟩⟩
    · have e := h.cell (i * 2 + 0) (rowC_at (f := spC ss) (z := 2) (fun _ => rfl) (j := 0) (by decide) n i hi)
      rw [Nat.zero_add]; exact e
    · have e := h.cell (i * 2 + 1) (rowC_at (f := spC ss) (z := 2) (fun _ => rfl) (j := 1) (by decide) n i hi)
      rw [Nat.zero_add]; exact e
theorem ro_Fault (nu de tl : Int) (ss : Nat → Int × Int) (ra : Option Addr) (n c : Nat) (lg : Nat → Int) (qa : Option Addr) (m cq : Nat) (w : World) (hU : RoUp nu de tl) (hQ : RdL w qa m lg) (hq : ∀ i, i < m → RdIn (lg i)) (gm : m ≤ 10) (hO : SpL w ra n ss) (ho : ∀ i, i < n → RoIn tl (ss i)) (gn : n ≤ 6) (hfl : fltB (badB nu de tl ss n lg) m = false) :
  Calls Try.prog 20 #[.agg #[.int .i64 nu, .int .i64 de, .int .i64 tl, .slice ra n c], .slice qa m cq] w (fun e w' => e = .returned (.tuple #[.int .i64 0, .int .i64 0, .int .i64 7]) ∧ Below w.heap.size w w') := by
 refine calls_fr Try.func20 Try.ntmps20 rfl rfl fun g hg => ?_
 have k0 : g 0 = .agg #[.int .i64 nu, .int .i64 de, .int .i64 tl, .slice ra n c] := hg 0
 have k1 : g 1 = .slice qa m cq := hg 1
 clear hg
 have fB0 : Below w.heap.size w w := Below.refl _ _
 refine rw_ 4 [(2, 0), (4, 1), (5, 2), (6, 3)] [[], [], [], []] (rel [bx 0 #[.int .i64 nu, .int .i64 de, .int .i64 tl, .slice ra n c] 80, iI 0, iI 0, iI 0])
  ⟨fun f s W d j k l o a => opb rfl rfl (by simp [go_sem, a.e 0 k0]),
  fun f s W d j k l o a => opz,
  fun f s W d j k l o a => opz,
  fun f s W d j k l o a => opz, trivial⟩ ?_
 intro f1 s1 W1 hB1 g1 hg1 z1
 have fB1 := hB1.f fB0
 obtain ⟨r1_0, br1_0⟩ := hB1.is 0
 have lr1_0 := hB1.lr 0 br1_0
 have k1_1 := kt hg1 1 k1
 have k1_2 := kt hg1 2 r1_0
 refine wp_seq_k fun K2 hK2 => ?_
 refine rw_ 4 [(9, 0), (10, 1), (11, 2), (7, 3)] [[], [], [0, 1], [2]] (rel [is (.agg #[.int .i64 nu, .int .i64 de, .int .i64 tl, .slice ra n c]), is (.slice qa m cq), iI 0, iI 0])
  ⟨fun f s W d j k l o a => opl rfl rfl rfl (a.v 2 k1_2) (bwb br1_0 d) Try.underlying80 rfl (by kernel_rfl) rfl,
  fun f s W d j k l o a => opm (a.v 1 k1_1),
  fun f s W d j k l o a => by have p := bwt fB1 d; exact opc rfl rfl (by simp [go_sem, a.e 9 (j 0 rfl), a.e 10 (j 1 rfl)]) (ro_check_yes nu de tl ss ra n c W hU (hO.below p) ho gn lg qa m cq (hQ.below p) hq gm),
  fun f s W d j k l o a => opm (a.v 11 (j 2 rfl)), trivial⟩ ?_
 intro f2 s2 W2 hB2 g2 hg2 z2
 have k2_7 := kt hg2 7 (hB2.is 3)
 refine rw_ 2 [(12, 0), (13, 1)] [[], [0]] (rel [iI 0, iB false])
  ⟨fun f s W d j k l o a => opm (a.v 7 k2_7),
  fun f s W d j k l o a => opv rfl rfl (by simp [go_sem, a.e 12 (j 0 rfl)]) rfl, trivial⟩ ?_
 intro f3 s3 W3 hB3 g3 hg3 z3
 have fB3 := hB3.f (hB2.f fB1)
 have b3_0 := hB3.b (hB2.b br1_0)
 have k3_1 := kt hg3 1 (kt hg2 1 k1_1)
 have k3_2 := kt hg3 2 (kt hg2 2 k1_2)
 have k3_13 := kt hg3 13 (hB3.is 1)
 refine wp_cond_false ((fr_eval rfl).trans k3_13) ?_
 refine wp_skip ?_
 refine hK2 _ _ ?_
 refine rx 11 [(16, 0), (17, 1), (18, 2), (19, 3), (15, 4), (20, 5), (21, 6), (22, 7), (4, 8), (5, 9), (8, 10)] [[], [0], [], [0, 1, 2], [0, 1, 2, 3], [0, 1, 2, 3, 4], [0, 1, 2, 3, 4], [0, 1, 2, 3, 4], [0, 1, 2, 3, 4, 5], [0, 1, 2, 3, 4, 5, 6, 8], [0, 1, 2, 3, 4, 5, 6, 7, 8, 9]] (rel [is (.agg #[.int .i64 nu, .int .i64 de, .int .i64 tl, .slice ra n c]),
   is (.agg #[.int .i64 nu, .int .i64 de, .int .i64 tl, .slice ra n c]),
   is (.slice qa m cq),
   ab fun v W => ∃ x0 x1, v = .tuple #[x0, x1, .bool false] ∧ IsI x0 ∧ IsI x1,
   ab fun v W => ∃ x0 x1, v = .tuple #[x0, x1, .bool false] ∧ IsI x0 ∧ IsI x1,
   ab fun v W => IsI v,
   ab fun v W => IsI v,
   is (.bool false),
   ab fun v W => IsI v,
   ab fun v W => IsI v,
   is (.bool false)])
  ⟨is_k, is_k, is_k, ab_k fun v W W' hb ⟨x0, x1, e, h0, h1⟩ => ⟨x0, x1, e, h0, h1⟩, ab_k fun v W W' hb ⟨x0, x1, e, h0, h1⟩ => ⟨x0, x1, e, h0, h1⟩, ab_k fun v W W' hb h => h, ab_k fun v W W' hb h => h, is_k, ab_k fun v W W' hb h => h, ab_k fun v W W' hb h => h, is_k, trivial⟩
  ⟨fun f s W d j k l o a => opl rfl rfl rfl (a.v 2 k3_2) (bwb b3_0 d) Try.underlying80 rfl (by kernel_rfl) rfl,
  fun f s W d j k l o a => opv rfl rfl (by simp [go_sem, a.e 16 (j 0 rfl)]) rfl,
  fun f s W d j k l o a => opv rfl rfl (by simp [go_sem, a.e 1 k3_1]) rfl,
  fun f s W d j k l o a => by have p := bwt fB3 d; exact opd rfl rfl (by simp [go_sem, a.e 17 (j 1 rfl), a.e 18 (j 2 rfl)]) (ro_fault nu de tl ss ra n c lg qa m cq W hU (hQ.below p) hq gm (hO.below p) ho gn hU.t) ((fun e W' h => by obtain ⟨o_, s_, e1, h2⟩ := h; rw [hfl] at e1; exact ⟨_, e1, h2, ⟨_, _, rfl, ⟨_, rfl⟩, ⟨_, rfl⟩⟩⟩)),
  fun f s W d j k l o a => opv (v := (f 3)) rfl rfl (by simp [go_sem, (a.at' 19 rfl : o.tmps[19]?.getD undef = f 3)] <;> rfl) (j 3 rfl),
  fun f s W d j k l o a => by obtain ⟨x4_0, x4_1, d4, p4_0, p4_1⟩ := (j 4 rfl); exact opv (v := x4_0) rfl rfl (by simp [go_sem, a.e 15 d4]) p4_0,
  fun f s W d j k l o a => by obtain ⟨x4_0, x4_1, d4, p4_0, p4_1⟩ := (j 4 rfl); exact opv (v := x4_1) rfl rfl (by simp [go_sem, a.e 15 d4]) p4_1,
  fun f s W d j k l o a => by obtain ⟨x4_0, x4_1, d4, p4_0, p4_1⟩ := (j 4 rfl); exact opv rfl rfl (by simp [go_sem, a.e 15 d4]) rfl,
  fun f s W d j k l o a => opv (v := (f 5)) rfl rfl (by simp [go_sem, (a.at' 20 rfl : o.tmps[20]?.getD undef = f 5)] <;> rfl) (j 5 rfl),
  fun f s W d j k l o a => opv (v := (f 6)) rfl rfl (by simp [go_sem, (a.at' 21 rfl : o.tmps[21]?.getD undef = f 6)] <;> rfl) (j 6 rfl),
  fun f s W d j k l o a => opv rfl rfl (by simp [go_sem, a.e 22 (j 7 rfl)]) rfl, trivial⟩ ?_
 intro f4 s4 W4 hB4 g4 hg4 z4
 obtain ⟨x3', r4_8⟩ := hB4.is 8
 obtain ⟨x4', r4_9⟩ := hB4.is 9
 have k4_8 := kt hg4 8 (hB4.is 10)
 refine wp_seq_k fun K7 hK7 => ?_
 refine rw_ 2 [(23, 0), (24, 1)] [[], [0]] (rel [iB false, iB true])
  ⟨fun f s W d j k l o a => opm (a.v 8 k4_8),
  fun f s W d j k l o a => opv rfl rfl (by simp [go_sem, a.e 23 (j 0 rfl)]) rfl, trivial⟩ ?_
 intro f5 s5 W5 hB5 g5 hg5 z5
 have k5_24 := kt hg5 24 (hB5.is 1)
 refine wp_cond_true ((fr_eval rfl).trans k5_24) ?_
 refine rw_ 3 [(4, 0), (5, 1), (6, 2)] [[], [], []] (rel [iI 0, iI 0, iI 7])
  ⟨fun f s W d j k l o a => opz,
  fun f s W d j k l o a => opz,
  fun f s W d j k l o a => opz, trivial⟩ ?_
 intro f6 s6 W6 hB6 g6 hg6 z6
 have fB6 := hB6.f (hB5.f (hB4.f fB3))
 have k6_4 := kt hg6 4 (hB6.is 0)
 have k6_5 := kt hg6 5 (hB6.is 1)
 have k6_6 := kt hg6 6 (hB6.is 2)
 refine wp_ret ?_
 refine then_ret ?_
 refine leave_gen (v := .tuple #[.int .i64 0, .int .i64 0, .int .i64 7]) (.inr rfl) (by simp [results, Try.results20, go_sem, frv 27 k6_4, frv 27 k6_5, frv 27 k6_6]) ?_
 exact ⟨rfl, fB6⟩
def IsSpL (n : Nat) (ss : Nat → Int × Int) (v : Value) (W : World) : Prop := ∃ a c, v = .slice a n c ∧ SpL W a n ss
theorem IsSpL.below {n : Nat} {ss : Nat → Int × Int} {v : Value} {W W' : World} (h : IsSpL n ss v W) (hb : Below W.heap.size W W') : IsSpL n ss v W' := by
  obtain ⟨a, c, e, h⟩ := h; exact ⟨a, c, e, h.below hb⟩
theorem ro_Rests (nu de tl : Int) (ss : Nat → Int × Int) (ra : Option Addr) (n c : Nat) (lg : Nat → Int) (qa : Option Addr) (m cq : Nat) (w : World) (hU : RoUp nu de tl) (hQ : RdL w qa m lg) (hq : ∀ i, i < m → RdIn (lg i)) (gm : m ≤ 10) (hO : SpL w ra n ss) (ho : ∀ i, i < n → RoIn tl (ss i)) (gn : n ≤ 6) (hle : upF (bgF lg m * nu) de ≤ (usplF tl ss n).2) :
  Calls Try.prog 21 #[.agg #[.int .i64 nu, .int .i64 de, .int .i64 tl, .slice ra n c], .slice qa m cq] w (fun e w' => ∃ v, e = .returned (.tuple #[v, .int .i64 0]) ∧ IsSpL n (rsF tl ss (upF (bgF lg m * nu) de)) v w' ∧ Below w.heap.size w w') := by
 have hd_ := hU.d
 have hu_ := hU.u
 have ht_ := hU.t
 have hbm_ := bgF_bd hq m (Nat.le_refl _)
 have hmu_ := tr_mul (show 0 ≤ bgF lg m ∧ bgF lg m ≤ 1000000 by omega) (show 0 ≤ nu ∧ nu ≤ 20000 by omega)
 have htt_ : 0 ≤ upF (bgF lg m * nu) de ∧ upF (bgF lg m * nu) de ≤ 100000000000 := by have h_ := quo_bd (a := bgF lg m * nu + de - 1) (d := de) (by omega) (by omega); exact ⟨h_.1, by have h2_ := Int.ediv_le_self de (show 0 ≤ bgF lg m * nu + de - 1 by omega); show (bgF lg m * nu + de - 1) / de ≤ _; omega⟩
 have hlt_ : decide ((usplF tl ss n).2 < upF (bgF lg m * nu) de) = false := decide_eq_false (by omega)
 refine calls_fr Try.func21 Try.ntmps21 rfl rfl fun g hg => ?_
 have k0 : g 0 = .agg #[.int .i64 nu, .int .i64 de, .int .i64 tl, .slice ra n c] := hg 0
 have k1 : g 1 = .slice qa m cq := hg 1
 clear hg
 have fB0 : Below w.heap.size w w := Below.refl _ _
 refine rw_ 3 [(2, 0), (4, 1), (5, 2)] [[], [], []] (rel [bx 0 #[.int .i64 nu, .int .i64 de, .int .i64 tl, .slice ra n c] 80, is (.slice none 0 0), iI 0])
  ⟨fun f s W l p q r x j => opb rfl rfl (by simp [go_sem, j.e 0 k0]),
  fun f s W l p q r x j => opv rfl rfl (by simp [go_sem]) rfl,
  fun f s W l p q r x j => opz, trivial⟩ ?_
 intro f1 s1 W1 hB1 g1 hg1 z1
 have fB1 := hB1.f fB0
 obtain ⟨r1_0, br1_0⟩ := hB1.is 0
 have lr1_0 := hB1.lr 0 br1_0
 have k1_1 := kt hg1 1 k1
 have k1_2 := kt hg1 2 r1_0
 refine wp_seq_k fun K2 hK2 => ?_
 refine rw_ 4 [(15, 0), (16, 1), (17, 2), (6, 3)] [[], [], [0, 1], [2]] (rel [is (.agg #[.int .i64 nu, .int .i64 de, .int .i64 tl, .slice ra n c]), is (.slice qa m cq), iI 0, iI 0])
  ⟨fun f s W l p q r x j => opl rfl rfl rfl (j.v 2 k1_2) (bwb br1_0 l) Try.underlying80 rfl (by kernel_rfl) rfl,
  fun f s W l p q r x j => opm (j.v 1 k1_1),
  fun f s W l p q r x j => by have y := bwt fB1 l; exact opc rfl rfl (by simp [go_sem, j.e 15 (p 0 rfl), j.e 16 (p 1 rfl)]) (ro_check_yes nu de tl ss ra n c W hU (hO.below y) ho gn lg qa m cq (hQ.below y) hq gm),
  fun f s W l p q r x j => opm (j.v 17 (p 2 rfl)), trivial⟩ ?_
 intro f2 s2 W2 hB2 g2 hg2 z2
 have k2_6 := kt hg2 6 (hB2.is 3)
 refine rw_ 2 [(18, 0), (19, 1)] [[], [0]] (rel [iI 0, iB false])
  ⟨fun f s W l p q r x j => opm (j.v 6 k2_6),
  fun f s W l p q r x j => opv rfl rfl (by simp [go_sem, j.e 18 (p 0 rfl)]) rfl, trivial⟩ ?_
 intro f3 s3 W3 hB3 g3 hg3 z3
 have k3_19 := kt hg3 19 (hB3.is 1)
 refine wp_cond_false ((fr_eval rfl).trans k3_19) ?_
 refine wp_skip ?_
 refine hK2 _ _ ?_
 refine rw_ 1 [(7, 0)] [[]] (rel [iI 0])
  ⟨fun f s W l p q r x j => opz, trivial⟩ ?_
 intro f4 s4 W4 hB4 g4 hg4 z4
 have k4_1 := kt hg4 1 (kt hg3 1 (kt hg2 1 k1_1))
 refine wp_seq_k fun K7 hK7 => ?_
 refine rw_ 3 [(21, 0), (22, 1), (23, 2)] [[], [0], []] (rel [is (.slice qa m cq), iI ((m : Int)), iI 0])
  ⟨fun f s W l p q r x j => opm (j.v 1 k4_1),
  fun f s W l p q r x j => opv rfl rfl (by simp [go_sem, j.e 21 (p 0 rfl)]) rfl,
  fun f s W l p q r x j => opz, trivial⟩ ?_
 intro f5 s5 W5 hB5 g5 hg5 z5
 have fB5 := hB5.f (hB4.f (hB3.f (hB2.f fB1)))
 have b5_0 := hB5.b (hB4.b (hB3.b (hB2.b br1_0)))
 have k5_2 := kt hg5 2 (kt hg4 2 (kt hg3 2 (kt hg2 2 k1_2)))
 have k5_4 := kt hg5 4 (kt hg4 4 (kt hg3 4 (kt hg2 4 (kt hg1 4 (hB1.is 1)))))
 have k5_5 := kt hg5 5 (kt hg4 5 (kt hg3 5 (kt hg2 5 (kt hg1 5 (hB1.is 2)))))
 have k5_7 := kt hg5 7 (kt hg4 7 (hB4.is 0))
 have k5_21 := kt hg5 21 (hB5.is 0)
 have k5_22 := kt hg5 22 (hB5.is 1)
 have k5_23 := kt hg5 23 (hB5.is 2)
 refine wp_block ?_
 refine wp_loop_n (fun m_ a_ W_ => ∃ g_ : Nat → Value, a_ = fr 92 g_ ∧ (∃ k : Nat, m_ = m - k ∧ g_ 2 = .pointer (some ⟨(s1 0), 0, none⟩) ∧ g_ 4 = .slice none 0 0 ∧ g_ 5 = .int .i64 0 ∧ g_ 21 = .slice qa m cq ∧ g_ 22 = .int .i64 ((m : Int)) ∧ g_ 23 = .int .i64 ((k : Int)) ∧ g_ 7 = .int .i64 ((bgF lg k)) ∧ Below w.heap.size w W_ ∧ W5.heap.size ≤ W_.heap.size ∧ W_.heap[(s1 0)]? = some (.cells #[.int .i64 nu, .int .i64 de, .int .i64 tl, .slice ra n c] 80 (0, 0)) ∧ (k ≤ m))) ⟨_, g5, rfl, 0, rfl, k5_2, k5_4, k5_5, k5_21, k5_22, k5_23.trans (by rfl), k5_7.trans (by rfl), fB5, Nat.le_refl _, b5_0, (by omega)⟩ ?_
 rintro _ _ W_5 ⟨g_5, rfl, k, rfl, k_5_2, k_5_4, k_5_5, k_5_21, k_5_22, k_5_23, k_5_7, fB_5, z_5, b_5_0, lk0⟩
 refine rw_ 1 [(24, 0)] [[]] (rel [iB (decide ((k : Int) < (m : Int)))])
  ⟨fun f s W l p q r x j => opv rfl rfl (by simp [go_sem, j.e 23 k_5_23, j.e 22 k_5_22]) rfl, trivial⟩ ?_
 intro f6 s6 W6 hB6 g6 hg6 z6
 have fB6 := hB6.f fB_5
 have b6_0 := hB6.b b_5_0
 have k6_2 := kt hg6 2 k_5_2
 have k6_4 := kt hg6 4 k_5_4
 have k6_5 := kt hg6 5 k_5_5
 have k6_21 := kt hg6 21 k_5_21
 have k6_23 := kt hg6 23 k_5_23
 have k6_7 := kt hg6 7 k_5_7
 have k6_24 := kt hg6 24 (hB6.is 0)
 refine wp_seq_k fun K10 hK10 => ?_
 refine wp_cond_split (t := decide ((k : Int) < (m : Int))) ((fr_eval rfl).trans k6_24) (fun hc11 => ?_) (fun hc11 => ?_)
 ·
  have hc11' := hc11; try simp only [ba] at hc11'
  have hkm : k < m := by omega
  have hqk_ : 1 ≤ lg k ∧ lg k ≤ 100000 := hq k hkm
  have hbk_ := bgF_bd hq k (by omega)
  obtain ⟨bq, oq, hqa, hQ'⟩ := hQ.at hkm
  subst hqa
  ·
   refine wp_skip ?_
   refine hK10 _ _ ?_
   refine wp_seq_k fun K12 hK12 => ?_
   refine wp_block ?_
   refine wp_seq_k fun K13 hK13 => ?_
   refine ry 3 [(25, 0), (26, 1), (9, 2)] [[], [0], [], [0, 1, 2]] (rel [is (.pointer (some ⟨bq, oq + k * 2, none⟩)), is (.agg #[.int .i64 ((lg k)), .bool true]), bx 2 #[.int .i64 0, .bool false] 76])
    ⟨fun f s W l p q r x j => by have li_ := Nat.not_le.2 (show k < m by omega); have li2_ : (k : Int) < (m : Int) := (by omega); exact opv rfl rfl (by simp [go_sem, j.e 21 k6_21, j.e 23 k6_23, li_, li2_]) rfl,
  fun f s W l p q r x j => by have y := bwt fB6 l; have cu_ := (hQ'.below y).2 k (by omega); have cu0_ : W.cell? ⟨bq, oq + k * 2, none⟩ = some (.int .i64 (lg k)) := cu_.1; have cu1_ : W.cell? ⟨bq, oq + k * 2 + 1, none⟩ = some (.bool true) := cu_.2; exact opv rfl rfl (by simp [go_sem, j.e 25 (p 0 rfl), cu0_, cu1_]) rfl,
  fun f s W l p q r x j => opb rfl rfl (by simp [go_sem]), trivial⟩ ?_
   intro f7 s7 W7 hB7 g7 hg7 z7
   have fB7 := hB7.f fB6
   have b7_0 := hB7.b b6_0
   obtain ⟨r7_2, br7_2⟩ := hB7.is 2
   have lr7_2 := hB7.lr 2 br7_2
   have k7_2 := kt hg7 2 k6_2
   have k7_4 := kt hg7 4 k6_4
   have k7_5 := kt hg7 5 k6_5
   have k7_21 := kt hg7 21 k6_21
   have k7_22 := kt hg7 22 (kt hg6 22 k_5_22)
   have k7_23 := kt hg7 23 k6_23
   have k7_7 := kt hg7 7 k6_7
   have k7_26 := kt hg7 26 (hB7.is 1)
   have k7_9 := kt hg7 9 r7_2
   obtain ⟨W8, hW8⟩ : ∃ W', W' = W7.setRow (s7 2) #[.int .i64 ((lg k)), .bool true] := ⟨_, rfl⟩
   refine tsk (o := _) rfl ⟨rfl, rfl⟩ (run_seg hW8 (fr_ev k7_9) (fr_ev k7_26) br7_2 rfl rfl rfl rfl) ?_
   obtain ⟨fB8, nb8, ot8, z8⟩ := sgf hW8 fB7 br7_2 (by omega)
   clear hW8
   have b8_0 := ot8 _ _ (by omega) b7_0
   refine wpe ?_
   refine hK13 _ _ ?_
   refine ry 5 [(27, 0), (28, 1), (29, 2), (30, 3), (7, 4)] [[], [], [1], [0, 2], [0, 3]] (rel [iI ((bgF lg k)), is (.pointer (some ⟨(s7 2), 0, none⟩)), iI ((lg k)), iI ((bgF lg (k + 1))), iI ((bgF lg (k + 1)))])
    ⟨fun f s W l p q r x j => opm (j.v 7 ((r 4 7 rfl rfl).trans k7_7)),
  fun f s W l p q r x j => opv rfl rfl (by simp [go_sem, j.e 9 k7_9]) rfl,
  fun f s W l p q r x j => opv rfl rfl (by simp [go_sem, j.e 28 (p 1 rfl), cb nb8 l 0]) rfl,
  fun f s W l p q r x j => by have rn_ : (bgF lg k) + (lg k) = (bgF lg (k + 1)) := rfl; have rm_ := IntWalk.i64_in (bgF lg (k + 1)) (by omega); exact opv rfl rfl (by simp [go_sem, j.e 27 (p 0 rfl), j.e 29 (p 2 rfl), IntWalk.i64_in ((bgF lg k) + (lg k)) (by omega), rn_, rm_]) rfl,
  fun f s W l p q r x j => opm (j.v 30 (p 3 rfl)), trivial⟩ ?_
   intro f9 s9 W9 hB9 g9 hg9 z9
   have fB9 := hB9.f fB8
   have b9_0 := hB9.b b8_0
   refine wpe ?_
   have k9_2 := kt hg9 2 k7_2
   have k9_4 := kt hg9 4 k7_4
   have k9_5 := kt hg9 5 k7_5
   have k9_21 := kt hg9 21 k7_21
   have k9_22 := kt hg9 22 k7_22
   have k9_23 := kt hg9 23 k7_23
   have k9_7 := kt hg9 7 (hB9.is 4)
   refine ibn ?_
   refine hK12 _ _ ?_
   refine ry 2 [(31, 0), (23, 1)] [[], [0]] (rel [iI ((k : Int) + 1), iI ((k : Int) + 1)])
    ⟨fun f s W l p q r x j => opv rfl rfl (by simp [go_sem, j.e 23 ((r 1 23 rfl rfl).trans k9_23), IntWalk.i64_in ((k : Int) + 1) (by omega)]) rfl,
  fun f s W l p q r x j => opm (j.v 31 (p 0 rfl)), trivial⟩ ?_
   intro f10 s10 W10 hB10 g10 hg10 z10
   have fB10 := hB10.f fB9
   have b10_0 := hB10.b b9_0
   refine wpe ?_
   have k10_2 := kt hg10 2 k9_2
   have k10_4 := kt hg10 4 k9_4
   have k10_5 := kt hg10 5 k9_5
   have k10_21 := kt hg10 21 k9_21
   have k10_22 := kt hg10 22 k9_22
   have k10_7 := kt hg10 7 k9_7
   have k10_23 := kt hg10 23 (hB10.is 1)
   refine then_normal ?_
   exact ⟨_, by omega, g10, rfl, k + 1, rfl, k10_2, k10_4, k10_5, k10_21, k10_22, k10_23.trans (by go_num), k10_7.trans (by go_num), fB10, (by omega), b10_0, (by omega)⟩
 ·
  have hc11' := hc11; try simp only [ba] at hc11'
  have hkm : m = k := by omega
  subst hkm
  ·
   refine wp_exit ?_
   refine then_exit ?_
   refine then_exit ?_
   refine inBlock_at ?_
   refine hK7 _ _ ?_
   refine rw_ 10 [(32, 0), (33, 1), (34, 2), (35, 3), (36, 4), (37, 5), (38, 6), (39, 7), (40, 8), (10, 9)] [[], [], [1], [2], [0, 3], [], [5], [6], [4, 7], [8]] (rel [iI ((bgF lg m)), is (.pointer (some ⟨(s1 0), 0, none⟩)), is (.pointer (some ⟨(s1 0), 0, none⟩)), iI nu, iI ((bgF lg m) * nu), is (.pointer (some ⟨(s1 0), 0, none⟩)), is (.pointer (some ⟨(s1 0), 1, none⟩)), iI de, iI ((upF (bgF lg m * nu) de)), iI ((upF (bgF lg m * nu) de))])
    ⟨fun f s W l p q r x j => opm (j.v 7 k6_7),
  fun f s W l p q r x j => opv rfl rfl (by simp [go_sem, j.e 2 k6_2]) rfl,
  fun f s W l p q r x j => opv rfl rfl (by simp [go_sem, j.e 33 (p 1 rfl)]) rfl,
  fun f s W l p q r x j => opv rfl rfl (by simp [go_sem, j.e 34 (p 2 rfl), cb b6_0 l 0]) rfl,
  fun f s W l p q r x j => opv rfl rfl (by simp [go_sem, j.e 32 (p 0 rfl), j.e 35 (p 3 rfl), IntWalk.i64_in ((bgF lg m) * nu) (by omega)]) rfl,
  fun f s W l p q r x j => opv rfl rfl (by simp [go_sem, j.e 2 k6_2]) rfl,
  fun f s W l p q r x j => opv rfl rfl (by simp [go_sem, j.e 37 (p 5 rfl)]) rfl,
  fun f s W l p q r x j => opv rfl rfl (by simp [go_sem, j.e 38 (p 6 rfl), cb b6_0 l 1]) rfl,
  fun f s W l p q r x j => opc rfl rfl (by simp [go_sem, j.e 36 (p 4 rfl), j.e 39 (p 7 rfl)]) (ro_up ((bgF lg m) * nu) (de) W (by omega) (by omega)),
  fun f s W l p q r x j => opm (j.v 40 (p 8 rfl)), trivial⟩ ?_
   intro f11 s11 W11 hB11 g11 hg11 z11
   have fB11 := hB11.f fB6
   have b11_0 := hB11.b b6_0
   have k11_2 := kt hg11 2 k6_2
   have k11_4 := kt hg11 4 k6_4
   have k11_5 := kt hg11 5 k6_5
   have k11_10 := kt hg11 10 (hB11.is 9)
   refine wp_seq_k fun K15 hK15 => ?_
   refine rw_ 6 [(41, 0), (42, 1), (43, 2), (44, 3), (45, 4), (46, 5)] [[], [0], [1], [2], [], [3, 4]] (rel [is (.agg #[.int .i64 nu, .int .i64 de, .int .i64 tl, .slice ra n c]), is (.agg #[.int .i64 nu, .int .i64 de, .int .i64 tl, .slice ra n c]), is (.agg #[.int .i64 ((usplF tl ss n).1), .int .i64 ((usplF tl ss n).2)]), iI ((usplF tl ss n).2), iI ((upF (bgF lg m * nu) de)), iB false])
    ⟨fun f s W l p q r x j => opl rfl rfl rfl (j.v 2 k11_2) (bwb b11_0 l) Try.underlying80 rfl (by kernel_rfl) rfl,
  fun f s W l p q r x j => opv rfl rfl (by simp [go_sem, j.e 41 (p 0 rfl)]) rfl,
  fun f s W l p q r x j => by have y := bwt fB11 l; exact opc rfl rfl (by simp [go_sem, j.e 42 (p 1 rfl)]) (ro_end nu de tl ss ra n c W (hO.below y) ho gn hU.t),
  fun f s W l p q r x j => by have fx_ : ∀ W : World, (Instr.field 43 (.agg #[.int .i64 ((usplF tl ss n).1), .int .i64 ((usplF tl ss n).2)]) 1).run Try.prog W = .ok (.int .i64 ((usplF tl ss n).2)) W := fun W => (by kernel_rfl); exact opv rfl rfl (by simp [go_sem, j.e 43 (p 2 rfl), fx_]) rfl,
  fun f s W l p q r x j => opm (j.v 10 k11_10),
  fun f s W l p q r x j => opv rfl rfl (by simp [go_sem, j.e 44 (p 3 rfl), j.e 45 (p 4 rfl), hlt_]) rfl, trivial⟩ ?_
   intro f12 s12 W12 hB12 g12 hg12 z12
   have fB12 := hB12.f fB11
   have b12_0 := hB12.b b11_0
   have k12_2 := kt hg12 2 k11_2
   have k12_4 := kt hg12 4 k11_4
   have k12_5 := kt hg12 5 k11_5
   have k12_10 := kt hg12 10 k11_10
   have k12_46 := kt hg12 46 (hB12.is 5)
   refine wp_cond_false ((fr_eval rfl).trans k12_46) ?_
   refine wp_skip ?_
   refine hK15 _ _ ?_
   refine rw_ 4 [(47, 0), (48, 1), (11, 2), (12, 3)] [[], [], [0], [1]] (rel [iI ((upF (bgF lg m * nu) de)), iI ((upF (bgF lg m * nu) de)), iI ((upF (bgF lg m * nu) de)), iI ((upF (bgF lg m * nu) de))])
    ⟨fun f s W l p q r x j => opm (j.v 10 k12_10),
  fun f s W l p q r x j => opm (j.v 10 k12_10),
  fun f s W l p q r x j => opm (j.v 47 (p 0 rfl)),
  fun f s W l p q r x j => opm (j.v 48 (p 1 rfl)), trivial⟩ ?_
   intro f13 s13 W13 hB13 g13 hg13 z13
   have fB13 := hB13.f fB12
   have b13_0 := hB13.b b12_0
   have k13_2 := kt hg13 2 k12_2
   have k13_4 := kt hg13 4 k12_4
   have k13_5 := kt hg13 5 k12_5
   have k13_11 := kt hg13 11 (hB13.is 2)
   have k13_12 := kt hg13 12 (hB13.is 3)
   have on0 : OwnN 43 2 w.heap.size 0 (rowC (spC (rsF tl ss (upF (bgF lg m * nu) de))) 0) none 0 W13 := ownN_nil
   refine wp_seq_k fun K19 hK19 => ?_
   refine rw_ 4 [(49, 0), (50, 1), (51, 2), (52, 3)] [[], [0], [1], []] (rel [is (.pointer (some ⟨(s1 0), 3, none⟩)), is (.slice ra n c), iI ((n : Int)), iI 0])
    ⟨fun f s W l p q r x j => opv rfl rfl (by simp [go_sem, j.e 2 k13_2]) rfl,
  fun f s W l p q r x j => opv rfl rfl (by simp [go_sem, j.e 49 (p 0 rfl), cb b13_0 l 3]) rfl,
  fun f s W l p q r x j => opv rfl rfl (by simp [go_sem, j.e 50 (p 1 rfl)]) rfl,
  fun f s W l p q r x j => opz, trivial⟩ ?_
   intro f14 s14 W14 hB14 g14 hg14 z14
   have fB14 := hB14.f fB13
   have b14_0 := hB14.b b13_0
   have q6' := (on0.below hB14.below)
   have k14_2 := kt hg14 2 k13_2
   have k14_4 := kt hg14 4 k13_4
   have k14_5 := kt hg14 5 k13_5
   have k14_11 := kt hg14 11 k13_11
   have k14_12 := kt hg14 12 k13_12
   have k14_50 := kt hg14 50 (hB14.is 1)
   have k14_51 := kt hg14 51 (hB14.is 2)
   have k14_52 := kt hg14 52 (hB14.is 3)
   refine wp_block ?_
   refine wp_loop_n (fun m_ a_ W_ => ∃ g_ : Nat → Value, a_ = fr 92 g_ ∧ (∃ k : Nat, ∃ aq : Option Addr, ∃ cq2 : Nat, m_ = n - k ∧ g_ 2 = .pointer (some ⟨(s1 0), 0, none⟩) ∧ g_ 5 = .int .i64 0 ∧ g_ 50 = .slice ra n c ∧ g_ 51 = .int .i64 ((n : Int)) ∧ g_ 52 = .int .i64 ((k : Int)) ∧ g_ 4 = .slice aq k cq2 ∧ g_ 11 = .int .i64 ((rsM tl ss (upF (bgF lg m * nu) de) k).1) ∧ g_ 12 = .int .i64 ((rsM tl ss (upF (bgF lg m * nu) de) k).2) ∧ Below w.heap.size w W_ ∧ W14.heap.size ≤ W_.heap.size ∧ W_.heap[(s1 0)]? = some (.cells #[.int .i64 nu, .int .i64 de, .int .i64 tl, .slice ra n c] 80 (0, 0)) ∧ OwnN 43 2 w.heap.size k (rowC (spC (rsF tl ss (upF (bgF lg m * nu) de))) k) aq cq2 W_ ∧ (k ≤ n))) ⟨_, g14, rfl, 0, none, 0, rfl, k14_2, k14_5, k14_50, k14_51, k14_52.trans (by rfl), k14_4.trans (by rfl), k14_11.trans (by rfl), k14_12.trans (by rfl), fB14, Nat.le_refl _, b14_0, q6', (by omega)⟩ ?_
   rintro _ _ W_7 ⟨g_7, rfl, k, aq, cq2, rfl, k_7_2, k_7_5, k_7_50, k_7_51, k_7_52, k_7_4, k_7_11, k_7_12, fB_7, z_7, b_7_0, q8', lk0⟩
   refine rw_ 1 [(53, 0)] [[]] (rel [iB (decide ((k : Int) < (n : Int)))])
    ⟨fun f s W l p q r x j => opv rfl rfl (by simp [go_sem, j.e 52 k_7_52, j.e 51 k_7_51]) rfl, trivial⟩ ?_
   intro f15 s15 W15 hB15 g15 hg15 z15
   have fB15 := hB15.f fB_7
   have b15_0 := hB15.b b_7_0
   have q9' := (q8'.below hB15.below)
   have k15_2 := kt hg15 2 k_7_2
   have k15_5 := kt hg15 5 k_7_5
   have k15_50 := kt hg15 50 k_7_50
   have k15_51 := kt hg15 51 k_7_51
   have k15_52 := kt hg15 52 k_7_52
   have k15_4 := kt hg15 4 k_7_4
   have k15_11 := kt hg15 11 k_7_11
   have k15_12 := kt hg15 12 k_7_12
   have k15_53 := kt hg15 53 (hB15.is 0)
   refine wp_seq_k fun K22 hK22 => ?_
   refine wp_cond_split (t := decide ((k : Int) < (n : Int))) ((fr_eval rfl).trans k15_53) (fun hc23 => ?_) (fun hc23 => ?_)
   ·
    have hc23' := hc23; try simp only [ba] at hc23'
    have hkn : k < n := by omega
    have hok_ := (ho k hkn).h
    have hrm_ := rsM_bd ht_ htt_ ho k (by omega)
    have limA := OwnN.lim q9'
    obtain ⟨bo, oo, hra, hO'⟩ := hO.at hkn
    subst hra
    ·
     refine wp_skip ?_
     refine hK22 _ _ ?_
     refine wp_seq_k fun K24 hK24 => ?_
     refine wp_block ?_
     refine wp_seq_k fun K25 hK25 => ?_
     refine ry 3 [(54, 0), (55, 1), (14, 2)] [[], [0], [], [0, 1, 2]] (rel [is (.pointer (some ⟨bo, oo + k * 2, none⟩)), is (.agg #[.int .i64 ((ss k).1), .int .i64 ((ss k).2)]), bx 2 #[.int .i64 0, .int .i64 0] 43])
      ⟨fun f s W l p q r x j => by have li_ := Nat.not_le.2 (show k < n by omega); have li2_ : (k : Int) < (n : Int) := (by omega); exact opv rfl rfl (by simp [go_sem, j.e 50 k15_50, j.e 52 k15_52, li_, li2_]) rfl,
  fun f s W l p q r x j => by have y := bwt fB15 l; have cu_ := (hO'.below y).2 k (by omega); have cu0_ : W.cell? ⟨bo, oo + k * 2, none⟩ = some (.int .i64 (ss k).1) := cu_.1; have cu1_ : W.cell? ⟨bo, oo + k * 2 + 1, none⟩ = some (.int .i64 (ss k).2) := cu_.2; exact opv rfl rfl (by simp [go_sem, j.e 54 (p 0 rfl), cu0_, cu1_]) rfl,
  fun f s W l p q r x j => opb rfl rfl (by simp [go_sem]), trivial⟩ ?_
     intro f16 s16 W16 hB16 g16 hg16 z16
     have fB16 := hB16.f fB15
     have b16_0 := hB16.b b15_0
     have q10' := (q9'.below hB16.below)
     obtain ⟨r16_2, br16_2⟩ := hB16.is 2
     have lr16_2 := hB16.lr 2 br16_2
     have k16_2 := kt hg16 2 k15_2
     have k16_5 := kt hg16 5 k15_5
     have k16_50 := kt hg16 50 k15_50
     have k16_51 := kt hg16 51 k15_51
     have k16_52 := kt hg16 52 k15_52
     have k16_4 := kt hg16 4 k15_4
     have k16_11 := kt hg16 11 k15_11
     have k16_12 := kt hg16 12 k15_12
     have k16_55 := kt hg16 55 (hB16.is 1)
     have k16_14 := kt hg16 14 r16_2
     obtain ⟨W17, hW17⟩ : ∃ W', W' = W16.setRow (s16 2) #[.int .i64 ((ss k).1), .int .i64 ((ss k).2)] := ⟨_, rfl⟩
     refine tsk (o := _) rfl ⟨rfl, rfl⟩ (run_seg hW17 (fr_ev k16_14) (fr_ev k16_55) br16_2 rfl rfl rfl rfl) ?_
     obtain ⟨fB17, nb17, ot17, z17⟩ := sgf hW17 fB16 br16_2 (by omega)
     clear hW17
     have b17_0 := ot17 _ _ (by omega) b16_0
     have q11' := q10'.other ot17 (fun g_ e_ => by have := limA g_ e_; omega) z17
     refine wpe ?_
     refine hK25 _ _ ?_
     refine wp_seq_k fun K26 hK26 => ?_
     refine ry 17 [(56, 0), (57, 1), (58, 2), (59, 3), (60, 4), (61, 5), (62, 6), (63, 7), (64, 8), (65, 9), (66, 10), (67, 11), (68, 12), (69, 13), (70, 14), (71, 15), (72, 16), (73, 17), (4, 18)] [[], [], [1], [], [3], [], [3, 4, 5], [1, 2, 3, 4, 5, 6], [], [8], [], [10], [], [10, 11, 12], [8, 9, 10, 11, 12, 13], [1, 2, 3, 4, 5, 6, 7, 8, 9, 10, 11, 12, 13, 14], [1, 2, 3, 4, 5, 6, 7, 8, 9, 10, 11, 12, 13, 14, 15], [0, 1, 2, 3, 4, 5, 6, 7, 8, 9, 10, 11, 12, 13, 14, 15, 16], [0, 1, 2, 3, 4, 5, 6, 7, 8, 9, 10, 11, 12, 13, 14, 15, 16, 17]] (rel [is (.slice aq k cq2), is (.pointer (some ⟨(s1 0), 2, none⟩)), iI tl, is (.pointer (some ⟨(s16 2), 0, none⟩)), iI ((ss k).1), iI ((rsM tl ss (upF (bgF lg m * nu) de) k).1), iI (((ss k).1) - ((rsM tl ss (upF (bgF lg m * nu) de) k).1)), iI (max tl (((ss k).1) - ((rsM tl ss (upF (bgF lg m * nu) de) k).1))), is (.pointer (some ⟨(s1 0), 2, none⟩)), iI tl, is (.pointer (some ⟨(s16 2), 1, none⟩)), iI ((ss k).2), iI ((rsM tl ss (upF (bgF lg m * nu) de) k).2), iI (((ss k).2) - ((rsM tl ss (upF (bgF lg m * nu) de) k).2)), iI (max tl (((ss k).2) - ((rsM tl ss (upF (bgF lg m * nu) de) k).2))), is (.agg #[.int .i64 (max tl (((ss k).1) - ((rsM tl ss (upF (bgF lg m * nu) de) k).1))), .int .i64 (max tl (((ss k).2) - ((rsM tl ss (upF (bgF lg m * nu) de) k).2)))]), row 16 1 #[.int .i64 (max tl (((ss k).1) - ((rsM tl ss (upF (bgF lg m * nu) de) k).1))), .int .i64 (max tl (((ss k).2) - ((rsM tl ss (upF (bgF lg m * nu) de) k).2)))] 43])
      ⟨fun f s W l p q r x j => opm (j.v 4 ((r 18 4 rfl rfl).trans k16_4)),
  fun f s W l p q r x j => opv rfl rfl (by simp [go_sem, j.e 2 k16_2]) rfl,
  fun f s W l p q r x j => opv rfl rfl (by simp [go_sem, j.e 57 (p 1 rfl), cb b17_0 l 2]) rfl,
  fun f s W l p q r x j => opv rfl rfl (by simp [go_sem, j.e 14 k16_14]) rfl,
  fun f s W l p q r x j => opv rfl rfl (by simp [go_sem, j.e 59 (p 3 rfl), cb nb17 l 0]) rfl,
  fun f s W l p q r x j => opm (j.v 11 k16_11),
  fun f s W l p q r x j => opv rfl rfl (by simp [go_sem, j.e 60 (p 4 rfl), j.e 61 (p 5 rfl), IntWalk.i64_in (((ss k).1) - ((rsM tl ss (upF (bgF lg m * nu) de) k).1)) (by omega)]) rfl,
  fun f s W l p q r x j => opv rfl rfl (by simp [go_sem, j.e 58 (p 2 rfl), j.e 62 (p 6 rfl)]) rfl,
  fun f s W l p q r x j => opv rfl rfl (by simp [go_sem, j.e 2 k16_2]) rfl,
  fun f s W l p q r x j => opv rfl rfl (by simp [go_sem, j.e 64 (p 8 rfl), cb b17_0 l 2]) rfl,
  fun f s W l p q r x j => opv rfl rfl (by simp [go_sem, j.e 14 k16_14]) rfl,
  fun f s W l p q r x j => opv rfl rfl (by simp [go_sem, j.e 66 (p 10 rfl), cb nb17 l 1]) rfl,
  fun f s W l p q r x j => opm (j.v 12 k16_12),
  fun f s W l p q r x j => opv rfl rfl (by simp [go_sem, j.e 67 (p 11 rfl), j.e 68 (p 12 rfl), IntWalk.i64_in (((ss k).2) - ((rsM tl ss (upF (bgF lg m * nu) de) k).2)) (by omega)]) rfl,
  fun f s W l p q r x j => opv rfl rfl (by simp [go_sem, j.e 65 (p 9 rfl), j.e 69 (p 13 rfl)]) rfl,
  fun f s W l p q r x j => opv rfl rfl (by simp [go_sem, j.e 63 (p 7 rfl), j.e 70 (p 14 rfl)]) rfl,
  fun f s W l p q r x j => opr rfl rfl (by simp [go_sem, j.e 71 (p 15 rfl)]), trivial⟩ ?_
     intro f18 s18 W18 hB18 g18 hg18 z18
     have fB18 := hB18.f fB17
     have b18_0 := hB18.b b17_0
     have b18_1 := hB18.b nb17
     have q12' := (q11'.below hB18.below)
     obtain ⟨r18_16, br18_16⟩ := hB18.is 16
     have lr18_16 := hB18.lr 16 br18_16
     have k18_56 := kt hg18 56 (hB18.is 0)
     have k18_72 := kt hg18 72 r18_16
     obtain ⟨ga19, ca19, W19, ra19, ow19, ot19, z19, gg19, fB19⟩ := growN_tail 45 45 43 2 16 _ (by kernel_rfl) infoSp rfl (rowC (spC (rsF tl ss (upF (bgF lg m * nu) de))) (k + 1)) (k + 1) (off := 0) (k := 1) (c' := 1) [.int .i64 (max tl (((ss k).1) - ((rsM tl ss (upF (bgF lg m * nu) de) k).1))), .int .i64 (max tl (((ss k).2) - ((rsM tl ss (upF (bgF lg m * nu) de) k).2)))] fB18 q12' rfl rfl rfl rfl (cells_at br18_16) (by omega)
     refine tail_value2 (o := _) rfl rfl rfl (run_appendOp (fr_ev k18_56) (fr_ev k18_72) ra19) ?_
     have b19_0 := ot19 _ _ (ownN_ne q12' b18_0 (by decide)) b18_0
     have b19_1 := ot19 _ _ (fun g_ e_ => by have := limA g_ e_; omega) b18_1
     have on19 : OwnN 43 2 w.heap.size (k + 1) (rowC (spC (rsF tl ss (upF (bgF lg m * nu) de))) (k + 1)) (some ⟨ga19, 0, none⟩) ca19 W19 := .inr ⟨_, rfl, ow19⟩
     generalize hg19 : upd g18 73 (.slice (some ⟨ga19, 0, none⟩) ((k + 1)) (ca19)) = g19
     have k19_73 := kt hg19 73 (upd_same _ _ _)
     refine tail_value (o := _) rfl rfl rfl (v := .slice (some ⟨ga19, 0, none⟩) ((k + 1)) (ca19)) (by simp [go_sem, frv 92 k19_73]) ?_
     generalize hg20 : upd g19 4 (.slice (some ⟨ga19, 0, none⟩) ((k + 1)) (ca19)) = g20
     have k20_2 := ku hg20 2 (ku hg19 2 (kt hg18 2 k16_2))
     have k20_5 := ku hg20 5 (ku hg19 5 (kt hg18 5 k16_5))
     have k20_50 := ku hg20 50 (ku hg19 50 (kt hg18 50 k16_50))
     have k20_51 := ku hg20 51 (ku hg19 51 (kt hg18 51 k16_51))
     have k20_52 := ku hg20 52 (ku hg19 52 (kt hg18 52 k16_52))
     have k20_11 := ku hg20 11 (ku hg19 11 (kt hg18 11 k16_11))
     have k20_12 := ku hg20 12 (ku hg19 12 (kt hg18 12 k16_12))
     have k20_14 := ku hg20 14 (ku hg19 14 (kt hg18 14 k16_14))
     have k20_4 := kt hg20 4 (upd_same _ _ _)
     refine wpe ?_
     refine hK26 _ _ ?_
     refine ry 18 [(74, 0), (75, 1), (76, 2), (77, 3), (78, 4), (79, 5), (80, 6), (81, 7), (82, 8), (83, 9), (84, 10), (85, 11), (86, 12), (87, 13), (88, 14), (89, 15), (11, 16), (12, 17)] [[], [], [1], [0, 2], [], [4], [3, 5], [6], [], [], [9], [8, 10], [], [12], [11, 13], [14], [0, 7], [8, 15]] (rel [iI ((rsM tl ss (upF (bgF lg m * nu) de) k).1), is (.pointer (some ⟨(s16 2), 0, none⟩)), iI ((ss k).1), iI (((rsM tl ss (upF (bgF lg m * nu) de) k).1) - ((ss k).1)), is (.pointer (some ⟨(s1 0), 2, none⟩)), iI tl, iI ((((rsM tl ss (upF (bgF lg m * nu) de) k).1) - ((ss k).1)) + tl), iI (max 0 ((((rsM tl ss (upF (bgF lg m * nu) de) k).1) - ((ss k).1)) + tl)), iI ((rsM tl ss (upF (bgF lg m * nu) de) k).2), is (.pointer (some ⟨(s16 2), 1, none⟩)), iI ((ss k).2), iI (((rsM tl ss (upF (bgF lg m * nu) de) k).2) - ((ss k).2)), is (.pointer (some ⟨(s1 0), 2, none⟩)), iI tl, iI ((((rsM tl ss (upF (bgF lg m * nu) de) k).2) - ((ss k).2)) + tl), iI (max 0 ((((rsM tl ss (upF (bgF lg m * nu) de) k).2) - ((ss k).2)) + tl)), iI (max 0 ((((rsM tl ss (upF (bgF lg m * nu) de) k).1) - ((ss k).1)) + tl)), iI (max 0 ((((rsM tl ss (upF (bgF lg m * nu) de) k).2) - ((ss k).2)) + tl))])
      ⟨fun f s W l p q r x j => opm (j.v 11 ((r 16 11 rfl rfl).trans k20_11)),
  fun f s W l p q r x j => opv rfl rfl (by simp [go_sem, j.e 14 k20_14]) rfl,
  fun f s W l p q r x j => opv rfl rfl (by simp [go_sem, j.e 75 (p 1 rfl), cb b19_1 l 0]) rfl,
  fun f s W l p q r x j => opv rfl rfl (by simp [go_sem, j.e 74 (p 0 rfl), j.e 76 (p 2 rfl), IntWalk.i64_in (((rsM tl ss (upF (bgF lg m * nu) de) k).1) - ((ss k).1)) (by omega)]) rfl,
  fun f s W l p q r x j => opv rfl rfl (by simp [go_sem, j.e 2 k20_2]) rfl,
  fun f s W l p q r x j => opv rfl rfl (by simp [go_sem, j.e 78 (p 4 rfl), cb b19_0 l 2]) rfl,
  fun f s W l p q r x j => opv rfl rfl (by simp [go_sem, j.e 77 (p 3 rfl), j.e 79 (p 5 rfl), IntWalk.i64_in ((((rsM tl ss (upF (bgF lg m * nu) de) k).1) - ((ss k).1)) + tl) (by omega)]) rfl,
  fun f s W l p q r x j => opv rfl rfl (by simp [go_sem, j.e 80 (p 6 rfl)]) rfl,
  fun f s W l p q r x j => opm (j.v 12 ((r 17 12 rfl rfl).trans k20_12)),
  fun f s W l p q r x j => opv rfl rfl (by simp [go_sem, j.e 14 k20_14]) rfl,
  fun f s W l p q r x j => opv rfl rfl (by simp [go_sem, j.e 83 (p 9 rfl), cb b19_1 l 1]) rfl,
  fun f s W l p q r x j => opv rfl rfl (by simp [go_sem, j.e 82 (p 8 rfl), j.e 84 (p 10 rfl), IntWalk.i64_in (((rsM tl ss (upF (bgF lg m * nu) de) k).2) - ((ss k).2)) (by omega)]) rfl,
  fun f s W l p q r x j => opv rfl rfl (by simp [go_sem, j.e 2 k20_2]) rfl,
  fun f s W l p q r x j => opv rfl rfl (by simp [go_sem, j.e 86 (p 12 rfl), cb b19_0 l 2]) rfl,
  fun f s W l p q r x j => opv rfl rfl (by simp [go_sem, j.e 85 (p 11 rfl), j.e 87 (p 13 rfl), IntWalk.i64_in ((((rsM tl ss (upF (bgF lg m * nu) de) k).2) - ((ss k).2)) + tl) (by omega)]) rfl,
  fun f s W l p q r x j => opv rfl rfl (by simp [go_sem, j.e 88 (p 14 rfl)]) rfl,
  fun f s W l p q r x j => opm (j.v 81 (p 7 rfl)),
  fun f s W l p q r x j => opm (j.v 89 (p 15 rfl)), trivial⟩ ?_
     intro f21 s21 W21 hB21 g21 hg21 z21
     have fB21 := hB21.f fB19
     have b21_0 := hB21.b b19_0
     have q13' := (on19.below hB21.below)
     refine wpe ?_
     have k21_2 := kt hg21 2 k20_2
     have k21_5 := kt hg21 5 k20_5
     have k21_50 := kt hg21 50 k20_50
     have k21_51 := kt hg21 51 k20_51
     have k21_52 := kt hg21 52 k20_52
     have k21_4 := kt hg21 4 k20_4
     have k21_11 := kt hg21 11 (hB21.is 16)
     have k21_12 := kt hg21 12 (hB21.is 17)
     refine ibn ?_
     refine hK24 _ _ ?_
     refine ry 2 [(90, 0), (52, 1)] [[], [0]] (rel [iI ((k : Int) + 1), iI ((k : Int) + 1)])
      ⟨fun f s W l p q r x j => opv rfl rfl (by simp [go_sem, j.e 52 ((r 1 52 rfl rfl).trans k21_52), IntWalk.i64_in ((k : Int) + 1) (by omega)]) rfl,
  fun f s W l p q r x j => opm (j.v 90 (p 0 rfl)), trivial⟩ ?_
     intro f22 s22 W22 hB22 g22 hg22 z22
     have fB22 := hB22.f fB21
     have b22_0 := hB22.b b21_0
     have q14' := (q13'.below hB22.below)
     refine wpe ?_
     have k22_2 := kt hg22 2 k21_2
     have k22_5 := kt hg22 5 k21_5
     have k22_50 := kt hg22 50 k21_50
     have k22_51 := kt hg22 51 k21_51
     have k22_4 := kt hg22 4 k21_4
     have k22_11 := kt hg22 11 k21_11
     have k22_12 := kt hg22 12 k21_12
     have k22_52 := kt hg22 52 (hB22.is 1)
     refine then_normal ?_
     exact ⟨_, by omega, g22, rfl, k + 1, (some ⟨ga19, 0, none⟩), ca19, rfl, k22_2, k22_5, k22_50, k22_51, k22_52.trans (by go_num), k22_4.trans (by go_num), k22_11.trans (by go_num), k22_12.trans (by go_num), fB22, (by omega), b22_0, q14', (by omega)⟩
   ·
    have hc23' := hc23; try simp only [ba] at hc23'
    have hkn : k = n := by omega
    refine wp_exit ?_
    refine then_exit ?_
    refine then_exit ?_
    refine inBlock_at ?_
    refine hK19 _ _ ?_
    refine rw_ 3 [(91, 0), (4, 1), (5, 2)] [[], [0], []] (rel [is (.slice aq k cq2), is (.slice aq k cq2), iI 0])
     ⟨fun f s W l p q r x j => opm (j.v 4 ((r 1 4 rfl rfl).trans k15_4)),
  fun f s W l p q r x j => opm (j.v 91 (p 0 rfl)),
  fun f s W l p q r x j => opz, trivial⟩ ?_
    intro f23 s23 W23 hB23 g23 hg23 z23
    have fB23 := hB23.f fB15
    have q15' := (q9'.below hB23.below)
    have k23_4 := kt hg23 4 (hB23.is 1)
    have k23_5 := kt hg23 5 (hB23.is 2)
    refine wp_ret ?_
    refine leave_gen (v := .tuple #[.slice aq k cq2, .int .i64 0]) (.inr rfl) (by simp [results, Try.results21, go_sem, frv 92 k23_4, frv 92 k23_5]) ?_
    subst hkn
    exact ⟨_, rfl, ⟨_, _, rfl, ownN_spL q15'⟩, fB23⟩
end Go.Proofs.Ytcgccflcjejlhaa
