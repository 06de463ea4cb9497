/- Part of the proof: what the claim leans on. -/
import Derived.Test.YtcgccflcjejlhaaVAG
import Derived.Test.YtcgccflcjejlhaaVAI
import Derived.Test.YtcgccflcjejlhaaVAH
import Derived.Test.YtcgccflcjejlhaaVAC
import Derived.Test.YtcgccflcjejlhaaVAD
set_option maxHeartbeats 8000000
set_option maxRecDepth 100000
set_option linter.unusedSimpArgs false
set_option linter.unusedVariables false
namespace Go.Proofs.Ytcgccflcjejlhaa
open Go.RowKit
def usplF (tl : Int) (ss : Nat → Int × Int) : Nat → Int × Int
  | 0 => (0, 0)
  | i + 1 => ((usplF tl ss i).1 + (ss i).1 - tl, (usplF tl ss i).2 + (ss i).2 - tl)
theorem usplF_bd {tl : Int} {ss : Nat → Int × Int} {n : Nat} (ht : 0 ≤ tl ∧ tl ≤ 10000) (ho : ∀ i, i < n → RoIn tl (ss i)) : ∀ i, i ≤ n → 0 ≤ (usplF tl ss i).1 ∧ (usplF tl ss i).1 ≤ (usplF tl ss i).2 ∧ (usplF tl ss i).2 ≤ 10000 * (i : Int)
  | 0, _ => ⟨Int.le_refl _, Int.le_refl _, Int.le_refl _⟩
  | i + 1, h => by
    have ih := usplF_bd ht ho i (by omega)
    have hi := (ho i (by omega)).h
    show 0 ≤ (usplF tl ss i).1 + (ss i).1 - tl ∧ (usplF tl ss i).1 + (ss i).1 - tl ≤ (usplF tl ss i).2 + (ss i).2 - tl ∧ (usplF tl ss i).2 + (ss i).2 - tl ≤ 10000 * ((i + 1 : Nat) : Int)
    omega
theorem splices_it (nu de tl : Int) (ss : Nat → Int × Int) (ra : Option Addr) (n c : Nat) {w : World} (hO : SpL w ra n ss) (ho : ∀ i, i < n → RoIn tl (ss i)) (gn : n ≤ 6) (ht : 0 ≤ tl ∧ tl ≤ 10000) (l : Nat) (G1 : Nat → Prop) (J : Nat → (Nat → Prop) → World → Prop) (v1 : World) (hB0 : Below w.heap.size w v1) (hJs : StabX (fun _ => False) J v1.heap.size) (hJG : ∀ i G W, J i G W → ∀ b, G b → w.heap.size ≤ b ∧ b < W.heap.size) (hY : ∀ i G W, i < n → J i G W → v1.heap.size ≤ W.heap.size → YieldAt Fence.wide 8 Try.prog l #[.int .i64 (i : Int), .agg #[.int .i64 (usplF tl ss (i + 1)).1, .int .i64 (usplF tl ss (i + 1)).2]] W (YldG J i G W)) (hJ0 : J 0 G1 v1) :
  CallsIn Fence.wide 9 Try.prog 87 #[.agg #[.int .i64 nu, .int .i64 de, .int .i64 tl, .slice ra n c], .func (.yield l) #[] #[]] v1 fun e W' => (∃ v, e = .returned v) ∧ ∃ G, J n G W' := by
 have hzv_ := Below.size hB0
 refine callsIn_wide.2 (calls_frM (n := 9) Try.func87 Try.ntmps87 rfl rfl fun g hg => ?_)
 have k0 : g 0 = .agg #[.int .i64 nu, .int .i64 de, .int .i64 tl, .slice ra n c] := hg 0
 have k1 : g 1 = .func (.yield l) #[] #[] := hg 1
 clear hg
 refine rw_ 1 [(2, 0)] [[]] (rel [bx 0 #[.int .i64 nu, .int .i64 de, .int .i64 tl, .slice ra n c] 128])
  ⟨fun f s W j m p q r a => opb rfl rfl (by simp [go_sem, a.e 0 k0]), trivial⟩ ?_
 intro f1 s1 W1 hB1 g1 hg1 z1
 have q1' := (StabX.below hJs hJ0 hB1.below)
 obtain ⟨r1_0, br1_0⟩ := hB1.is 0
 have lr1_0 := hB1.lr 0 br1_0
 have k1_2 := kt hg1 2 r1_0
 obtain ⟨bs, hn_bs⟩ : ∃ b, (s1 0) = b := ⟨_, rfl⟩
 have kn_bs := hn_bs ▸ k1_2
 have bn_bs := hn_bs ▸ br1_0
 have kn_bs : g1 2 = .pointer (some ⟨bs, 0, none⟩) := kn_bs
 have bn_bs : W1.heap[bs]? = some (.cells #[.int .i64 nu, .int .i64 de, .int .i64 tl, .slice ra n c] 128 (0, 0)) := bn_bs
 have lt_bs := ltb bn_bs
 refine rw_ 1 [(4, 0)] [[]] (rel [bx 0 #[.int .i64 0, .int .i64 0] 43])
  ⟨fun f s W j m p q r a => opb rfl rfl (by simp [go_sem]), trivial⟩ ?_
 intro f2 s2 W2 hB2 g2 hg2 z2
 have b2_0 := hB2.b bn_bs
 have q2' := (StabX.below hJs q1' hB2.below)
 obtain ⟨r2_0, br2_0⟩ := hB2.is 0
 have lr2_0 := hB2.lr 0 br2_0
 have k2_2 := kt hg2 2 kn_bs
 have k2_4 := kt hg2 4 r2_0
 obtain ⟨bu, hn_bu⟩ : ∃ b, (s2 0) = b := ⟨_, rfl⟩
 have kn_bu := hn_bu ▸ k2_4
 have bn_bu := hn_bu ▸ br2_0
 have kn_bu : g2 4 = .pointer (some ⟨bu, 0, none⟩) := kn_bu
 have bn_bu : W2.heap[bu]? = some (.cells #[.int .i64 0, .int .i64 0] 43 (0, 0)) := bn_bu
 have lt_bu := ltb bn_bu
 refine rw_ 5 [(7, 0), (8, 1), (9, 2), (10, 3), (11, 4)] [[], [0], [0, 1], [0, 1, 2], []] (rel [is (.pointer (some ⟨bs, 0, none⟩)), is (.pointer (some ⟨bs, 3, none⟩)), is (.slice ra n c), iI ((n : Int)), iI 0])
  ⟨fun f s W j m p q r a => opv rfl rfl (by simp [go_sem, a.e 2 k2_2]) rfl,
  fun f s W j m p q r a => opv rfl rfl (by simp [go_sem, a.e 7 (m 0 rfl)]) rfl,
  fun f s W j m p q r a => opv rfl rfl (by simp [go_sem, a.e 8 (m 1 rfl), cb b2_0 j 3]) rfl,
  fun f s W j m p q r a => opv rfl rfl (by simp [go_sem, a.e 9 (m 2 rfl)]) rfl,
  fun f s W j m p q r a => opv rfl rfl (by simp [go_sem]) rfl, trivial⟩ ?_
 intro f3 s3 W3 hB3 g3 hg3 z3
 have fB3 := hB3.f (hB2.f (hB1.f hB0))
 have b3_0 := hB3.b b2_0
 have b3_1 := hB3.b bn_bu
 have q3' := (StabX.below hJs q2' hB3.below)
 have k3_1 := kt hg3 1 (kt hg2 1 (kt hg1 1 k1))
 have k3_2 := kt hg3 2 k2_2
 have k3_4 := kt hg3 4 kn_bu
 have k3_9 := kt hg3 9 (hB3.is 2)
 have k3_10 := kt hg3 10 (hB3.is 3)
 have k3_11 := kt hg3 11 (hB3.is 4)
 refine wp_block ?_
 refine wp_loop_n (fun m_ a_ W_ => ∃ g_ : Nat → Value, a_ = fr 41 g_ ∧ (∃ k : Nat, ∃ G : Nat → Prop, m_ = n - k ∧ g_ 1 = .func (.yield l) #[] #[] ∧ g_ 2 = .pointer (some ⟨bs, 0, none⟩) ∧ g_ 4 = .pointer (some ⟨bu, 0, none⟩) ∧ g_ 9 = .slice ra n c ∧ g_ 10 = .int .i64 ((n : Int)) ∧ g_ 11 = .int .i64 ((k : Int)) ∧ Below w.heap.size w W_ ∧ W3.heap.size ≤ W_.heap.size ∧ W_.heap[bs]? = some (.cells #[.int .i64 nu, .int .i64 de, .int .i64 tl, .slice ra n c] 128 (0, 0)) ∧ W_.heap[bu]? = some (.cells #[.int .i64 ((usplF tl ss k).1), .int .i64 ((usplF tl ss k).2)] 43 (0, 0)) ∧ J k G W_ ∧ (k ≤ n) ∧ (∀ b, G b → b ≠ bs ∧ b ≠ bu))) ⟨_, g3, rfl, 0, G1, rfl, k3_1, k3_2, k3_4, k3_9, k3_10, k3_11.trans (by rfl), fB3, Nat.le_refl _, b3_0, b3_1, q3', (by omega), (fun b hb => by have h_ := (hJG _ _ _ hJ0 b hb).2; omega)⟩ ?_
 rintro _ _ W_4 ⟨g_4, rfl, k, G, rfl, k_4_1, k_4_2, k_4_4, k_4_9, k_4_10, k_4_11, fB_4, z_4, b_4_0, m_4_0, q5', lk0, lk1⟩
 refine rw_ 1 [(12, 0)] [[]] (rel [iB (decide ((k : Int) < (n : Int)))])
  ⟨fun f s W j m p q r a => opv rfl rfl (by simp [go_sem, a.e 11 k_4_11, a.e 10 k_4_10]) rfl, trivial⟩ ?_
 intro f4 s4 W4 hB4 g4 hg4 z4
 have fB4 := hB4.f fB_4
 have q6' := (StabX.below hJs q5' hB4.below)
 have k4_9 := kt hg4 9 k_4_9
 have k4_11 := kt hg4 11 k_4_11
 have k4_12 := kt hg4 12 (hB4.is 0)
 refine wp_seq_k fun K5 hK5 => ?_
 refine wp_cond_split (t := decide ((k : Int) < (n : Int))) ((fr_eval rfl).trans k4_12) (fun hc6 => ?_) (fun hc6 => ?_)
 ·
  have hc6' := hc6; try simp only [ba] at hc6'
  have hkn : k < n := by omega
  have hub_ := usplF_bd ht ho k (by omega)
  have hok_ := (ho k hkn).h
  have hGlt_ := fun b hb => (hJG _ _ _ q6' b hb).2
  obtain ⟨bo, oo, hra, hO'⟩ := hO.at hkn
  subst hra
  ·
   refine wp_skip ?_
   refine hK5 _ _ ?_
   refine wp_seq_k fun K7 hK7 => ?_
   refine wp_block ?_
   refine wp_seq_k fun K8 hK8 => ?_
   refine ry 5 [(13, 0), (14, 1), (15, 2), (6, 3), (5, 4)] [[], [], [1], [], [0, 1, 2, 3], [0, 1, 2, 3, 4]] (rel [iI ((k : Int)), is (.pointer (some ⟨bo, oo + k * 2, none⟩)), is (.agg #[.int .i64 ((ss k).1), .int .i64 ((ss k).2)]), bx 3 #[.int .i64 0, .int .i64 0] 43, iI ((k : Int))])
    ⟨fun f s W j m p q r a => opv rfl rfl (by simp [go_sem, a.e 11 k4_11]) rfl,
  fun f s W j m p q r a => by have li_ := Nat.not_le.2 (show k < n by omega); have li2_ : (k : Int) < (n : Int) := (by omega); exact opv rfl rfl (by simp [go_sem, a.e 9 k4_9, a.e 11 k4_11, li_, li2_]) rfl,
  fun f s W j m p q r a => by have u := bwt fB4 j; have cu_ := (hO'.below u).2 k (by omega); have cu0_ : W.cell? ⟨bo, oo + k * 2, none⟩ = some (.int .i64 (ss k).1) := cu_.1; have cu1_ : W.cell? ⟨bo, oo + k * 2 + 1, none⟩ = some (.int .i64 (ss k).2) := cu_.2; exact opv rfl rfl (by simp [go_sem, a.e 14 (m 1 rfl), cu0_, cu1_]) rfl,
  fun f s W j m p q r a => opb rfl rfl (by simp [go_sem]),
  fun f s W j m p q r a => opv rfl rfl (by simp [go_sem, a.e 13 (m 0 rfl)]) rfl, trivial⟩ ?_
   intro f5 s5 W5 hB5 g5 hg5 z5
   have fB5 := hB5.f fB4
   have b5_0 := hB5.b (hB4.b b_4_0)
   have b5_1 := hB5.b (hB4.b m_4_0)
   have q7' := (StabX.below hJs q6' hB5.below)
   obtain ⟨r5_3, br5_3⟩ := hB5.is 3
   have lr5_3 := hB5.lr 3 br5_3
   have k5_1 := kt hg5 1 (kt hg4 1 k_4_1)
   have k5_2 := kt hg5 2 (kt hg4 2 k_4_2)
   have k5_4 := kt hg5 4 (kt hg4 4 k_4_4)
   have k5_9 := kt hg5 9 k4_9
   have k5_10 := kt hg5 10 (kt hg4 10 k_4_10)
   have k5_11 := kt hg5 11 k4_11
   have k5_15 := kt hg5 15 (hB5.is 2)
   have k5_6 := kt hg5 6 r5_3
   have k5_5 := kt hg5 5 (hB5.is 4)
   obtain ⟨W6, hW6⟩ : ∃ W', W' = W5.setRow (s5 3) #[.int .i64 ((ss k).1), .int .i64 ((ss k).2)] := ⟨_, rfl⟩
   refine tsk (o := _) rfl ⟨rfl, rfl⟩ (run_seg hW6 (fr_ev k5_6) (fr_ev k5_15) br5_3 rfl rfl rfl rfl) ?_
   obtain ⟨fB6, nb6, ot6, z6⟩ := sgf hW6 fB5 br5_3 (by omega)
   have q8' := (hJs _ _ _ _ q7' (keepX_P (keepX_row hW6) (by first | exact .inr ⟨by omega, fun hg_ => (lk1 _ hg_).2 rfl⟩ | exact .inr ⟨by omega, fun hg_ => by have := hGlt_ _ hg_; omega⟩)))
   clear hW6
   have b6_0 := ot6 _ _ (by omega) b5_0
   have b6_1 := ot6 _ _ (by omega) b5_1
   refine wpe ?_
   refine hK8 _ _ ?_
   refine wp_seq_k fun K9 hK9 => ?_
   refine ry 19 [(16, 0), (17, 1), (18, 2), (19, 3), (20, 4), (21, 5), (22, 6), (23, 7), (24, 8), (25, 9), (26, 10), (27, 11), (28, 12), (29, 13), (30, 14), (31, 15), (32, 16), (33, 17), (34, 18)] [[], [0], [], [2], [0, 1, 2, 3], [], [5], [5, 6], [0, 1, 2, 3, 4, 5, 6, 7], [], [9], [], [11], [9, 10, 11, 12], [], [14], [14, 15], [9, 10, 11, 12, 13, 14, 15, 16], [0, 1, 2, 3, 4, 5, 6, 7, 8, 9, 10, 11, 12, 13, 14, 15, 16, 17], [0, 1, 2, 3, 4, 5, 6, 7, 8, 9, 10, 11, 12, 13, 14, 15, 16, 17, 18]] (rel [is (.pointer (some ⟨bu, 0, none⟩)), iI ((usplF tl ss k).1), is (.pointer (some ⟨(s5 3), 0, none⟩)), iI ((ss k).1), iI (((usplF tl ss k).1) + ((ss k).1)), is (.pointer (some ⟨bs, 0, none⟩)), is (.pointer (some ⟨bs, 2, none⟩)), iI tl, iI ((((usplF tl ss k).1) + ((ss k).1)) - tl), is (.pointer (some ⟨bu, 1, none⟩)), iI ((usplF tl ss k).2), is (.pointer (some ⟨(s5 3), 1, none⟩)), iI ((ss k).2), iI (((usplF tl ss k).2) + ((ss k).2)), is (.pointer (some ⟨bs, 0, none⟩)), is (.pointer (some ⟨bs, 2, none⟩)), iI tl, iI ((((usplF tl ss k).2) + ((ss k).2)) - tl), is (.agg #[.int .i64 ((((usplF tl ss k).1) + ((ss k).1)) - tl), .int .i64 ((((usplF tl ss k).2) + ((ss k).2)) - tl)])])
    ⟨fun f s W j m p q r a => opv rfl rfl (by simp [go_sem, a.e 4 k5_4]) rfl,
  fun f s W j m p q r a => opv rfl rfl (by simp [go_sem, a.e 16 (m 0 rfl), cb b6_1 j 0]) rfl,
  fun f s W j m p q r a => opv rfl rfl (by simp [go_sem, a.e 6 k5_6]) rfl,
  fun f s W j m p q r a => opv rfl rfl (by simp [go_sem, a.e 18 (m 2 rfl), cb nb6 j 0]) rfl,
  fun f s W j m p q r a => opv rfl rfl (by simp [go_sem, a.e 17 (m 1 rfl), a.e 19 (m 3 rfl), IntWalk.i64_in (((usplF tl ss k).1) + ((ss k).1)) (by omega)]) rfl,
  fun f s W j m p q r a => opv rfl rfl (by simp [go_sem, a.e 2 k5_2]) rfl,
  fun f s W j m p q r a => opv rfl rfl (by simp [go_sem, a.e 21 (m 5 rfl)]) rfl,
  fun f s W j m p q r a => opv rfl rfl (by simp [go_sem, a.e 22 (m 6 rfl), cb b6_0 j 2]) rfl,
  fun f s W j m p q r a => opv rfl rfl (by simp [go_sem, a.e 20 (m 4 rfl), a.e 23 (m 7 rfl), IntWalk.i64_in ((((usplF tl ss k).1) + ((ss k).1)) - tl) (by omega)]) rfl,
  fun f s W j m p q r a => opv rfl rfl (by simp [go_sem, a.e 4 k5_4]) rfl,
  fun f s W j m p q r a => opv rfl rfl (by simp [go_sem, a.e 25 (m 9 rfl), cb b6_1 j 1]) rfl,
  fun f s W j m p q r a => opv rfl rfl (by simp [go_sem, a.e 6 k5_6]) rfl,
  fun f s W j m p q r a => opv rfl rfl (by simp [go_sem, a.e 27 (m 11 rfl), cb nb6 j 1]) rfl,
  fun f s W j m p q r a => opv rfl rfl (by simp [go_sem, a.e 26 (m 10 rfl), a.e 28 (m 12 rfl), IntWalk.i64_in (((usplF tl ss k).2) + ((ss k).2)) (by omega)]) rfl,
  fun f s W j m p q r a => opv rfl rfl (by simp [go_sem, a.e 2 k5_2]) rfl,
  fun f s W j m p q r a => opv rfl rfl (by simp [go_sem, a.e 30 (m 14 rfl)]) rfl,
  fun f s W j m p q r a => opv rfl rfl (by simp [go_sem, a.e 31 (m 15 rfl), cb b6_0 j 2]) rfl,
  fun f s W j m p q r a => opv rfl rfl (by simp [go_sem, a.e 29 (m 13 rfl), a.e 32 (m 16 rfl), IntWalk.i64_in ((((usplF tl ss k).2) + ((ss k).2)) - tl) (by omega)]) rfl,
  fun f s W j m p q r a => opv rfl rfl (by simp [go_sem, a.e 24 (m 8 rfl), a.e 33 (m 17 rfl)]) rfl, trivial⟩ ?_
   intro f7 s7 W7 hB7 g7 hg7 z7
   have fB7 := hB7.f fB6
   have b7_0 := hB7.b b6_0
   have b7_1 := hB7.b b6_1
   have q9' := (StabX.below hJs q8' hB7.below)
   have k7_1 := kt hg7 1 k5_1
   have k7_4 := kt hg7 4 k5_4
   have k7_34 := kt hg7 34 (hB7.is 18)
   obtain ⟨W8, hW8⟩ : ∃ W', W' = W7.setRow bu #[.int .i64 ((((usplF tl ss k).1) + ((ss k).1)) - tl), .int .i64 ((((usplF tl ss k).2) + ((ss k).2)) - tl)] := ⟨_, rfl⟩
   refine tsk (o := _) rfl ⟨rfl, rfl⟩ (run_seg hW8 (fr_ev k7_4) (fr_ev k7_34) b7_1 rfl rfl rfl rfl) ?_
   obtain ⟨fB8, nb8, ot8, z8⟩ := sgf hW8 fB7 b7_1 (by omega)
   have q10' := (hJs _ _ _ _ q9' (keepX_P (keepX_row hW8) (by first | exact .inr ⟨by omega, fun hg_ => (lk1 _ hg_).2 rfl⟩ | exact .inr ⟨by omega, fun hg_ => by have := hGlt_ _ hg_; omega⟩)))
   clear hW8
   have b8_0 := ot8 _ _ (by omega) b7_0
   refine wpe ?_
   refine hK9 _ _ ?_
   refine wp_seq_k fun K10 hK10 => ?_
   refine (wpIn_wide (n := 9)).1 (wpIn_region ?_)
   show wpOpsIn _ _ _ _ _ [0, 1, 2, 3, 4] _ _
   refine inP_value (o := _) rfl rfl rfl (v := .func (.yield l) #[] #[]) (by simp [go_sem, frv 41 k7_1]) ?_
   generalize hg9 : upd g7 35 (.func (.yield l) #[] #[]) = g9
   have k9_5 := ku hg9 5 (kt hg7 5 k5_5)
   refine inP_value (o := _) rfl rfl rfl (v := .int .i64 ((k : Int))) (by simp [go_sem, frv 41 k9_5]) ?_
   generalize hg10 : upd g9 36 (.int .i64 ((k : Int))) = g10
   have k10_4 := ku hg10 4 (ku hg9 4 k7_4)
   refine inP_value (o := _) rfl rfl rfl (v := .agg #[.int .i64 ((((usplF tl ss k).1) + ((ss k).1)) - tl), .int .i64 ((((usplF tl ss k).2) + ((ss k).2)) - tl)]) (by simp [go_sem, frv 41 k10_4, cl nb8 0, cl nb8 1]) ?_
   generalize hg11 : upd g10 37 (.agg #[.int .i64 ((((usplF tl ss k).1) + ((ss k).1)) - tl), .int .i64 ((((usplF tl ss k).2) + ((ss k).2)) - tl)]) = g11
   have k11_35 := ku hg11 35 (ku hg10 35 (kt hg9 35 (upd_same _ _ _)))
   have k11_36 := ku hg11 36 (kt hg10 36 (upd_same _ _ _))
   have k11_37 := kt hg11 37 (upd_same _ _ _)
   refine inP_round (o := _) (d := 38) rfl rfl rfl (l := l) (args := #[.int .i64 ((k : Int)), .agg #[.int .i64 ((((usplF tl ss k).1) + ((ss k).1)) - tl), .int .i64 ((((usplF tl ss k).2) + ((ss k).2)) - tl)]]) (by simp [go_sem, frv 41 k11_35, frv 41 k11_36, frv 41 k11_37]) (yieldAt_fuel (hY k _ _ hkn q10' (by omega))) ?_ (fun _ h => nomatch h.1) (fun _ _ h => nomatch h.1)
   rintro v_ W12 ⟨rv12, G12, jj12, kx12, gg12⟩
   obtain rfl := Ending.returned.inj rv12
   have kz12 := kx12.size
   have hge12 := hJG _ _ _ q10'
   have fB12 : Below w.heap.size w W12 := Below.trans fB8 (kx12.below (fun b hb => (hge12 b hb).1) (Below.size fB8))
   have by12_bs := kx12.block _ _ (fun e => (lk1 _ e).1 rfl) b8_0
   have by12_bu := kx12.block _ _ (fun e => (lk1 _ e).2 rfl) nb8
   generalize hg12 : upd g11 38 (.bool true) = g12
   have k12_38 := kt hg12 38 (upd_same _ _ _)
   refine inP_value (o := _) rfl rfl rfl (v := .bool false) (by simp [go_sem, frv 41 k12_38]) ?_
   generalize hg13 : upd g12 39 (.bool false) = g13
   have k13_1 := ku hg13 1 (ku hg12 1 (ku hg11 1 (ku hg10 1 (ku hg9 1 k7_1))))
   have k13_2 := ku hg13 2 (ku hg12 2 (ku hg11 2 (ku hg10 2 (ku hg9 2 (kt hg7 2 k5_2)))))
   have k13_4 := ku hg13 4 (ku hg12 4 (ku hg11 4 k10_4))
   have k13_9 := ku hg13 9 (ku hg12 9 (ku hg11 9 (ku hg10 9 (ku hg9 9 (kt hg7 9 k5_9)))))
   have k13_10 := ku hg13 10 (ku hg12 10 (ku hg11 10 (ku hg10 10 (ku hg9 10 (kt hg7 10 k5_10)))))
   have k13_11 := ku hg13 11 (ku hg12 11 (ku hg11 11 (ku hg10 11 (ku hg9 11 (kt hg7 11 k5_11)))))
   have k13_39 := kt hg13 39 (upd_same _ _ _)
   refine hK10 _ _ ?_
   refine wp_cond_false ((fr_eval rfl).trans k13_39) ?_
   refine wp_skip ?_
   refine ibn ?_
   refine hK7 _ _ ?_
   refine ry 2 [(40, 0), (11, 1)] [[], [0]] (rel [iI ((k : Int) + 1), iI ((k : Int) + 1)])
    ⟨fun f s W j m p q r a => opv rfl rfl (by simp [go_sem, a.e 11 ((q 1 11 rfl rfl).trans k13_11), IntWalk.i64_in ((k : Int) + 1) (by omega)]) rfl,
  fun f s W j m p q r a => opv rfl rfl (by simp [go_sem, a.e 40 (m 0 rfl)]) rfl, trivial⟩ ?_
   intro f14 s14 W14 hB14 g14 hg14 z14
   have fB14 := hB14.f fB12
   have b14_0 := hB14.b by12_bs
   have b14_1 := hB14.b by12_bu
   have q11' := (StabX.below hJs jj12 hB14.below)
   refine wpe ?_
   have k14_1 := kt hg14 1 k13_1
   have k14_2 := kt hg14 2 k13_2
   have k14_4 := kt hg14 4 k13_4
   have k14_9 := kt hg14 9 k13_9
   have k14_10 := kt hg14 10 k13_10
   have k14_11 := kt hg14 11 (hB14.is 1)
   refine then_normal ?_
   exact ⟨_, by omega, g14, rfl, k + 1, G12, rfl, k14_1, k14_2, k14_4, k14_9, k14_10, k14_11.trans (by go_num), fB14, (by omega), b14_0, b14_1, q11', (by omega), (fun b hb => (gg12 b hb).elim (lk1 b) fun h => ⟨by omega, by omega⟩)⟩
 ·
  have hc6' := hc6; try simp only [ba] at hc6'
  have hkn : k = n := by omega
  refine wp_exit ?_
  refine then_exit ?_
  refine then_exit ?_
  refine inBlock_at ?_
  refine leave_marks (v := .tuple #[]) (Ds := []) (.inl rfl) rfl rfl ⟨.nil, fun _ h => nomatch h⟩ (fun W' => by simp [results, Try.results87, go_sem]) fun W' hk => ⟨⟨_, rfl⟩, G, ?_⟩
  have hJe := hJs _ _ _ _ q6' (hk.more fun b hb => (nomatch hb))
  rw [hkn] at hJe
  exact hJe
open Go.RowKit Go.Shelf
def YldE (l : Nat) (J : Nat → (Nat → Prop) → World → Prop) (S : (Nat → Prop) → World → Prop) (i : Nat) (G : Nat → Prop) (W : World) (e : Ending) (W' : World) : Prop :=
  (e = .returned (.bool true) ∧ ∃ G', J (i + 1) G' W' ∧ KeepP G W W' ∧ ∀ b, G' b → G b ∨ W.heap.size ≤ b) ∨
  (e = .returned (.bool false) ∧ ∃ G', S G' W' ∧ KeepP (fun b => G b ∨ b = l) W W')
def StabS (S : (Nat → Prop) → World → Prop) (B : Nat) : Prop := ∀ G W W', S G W → KeepP (fun b => B ≤ b ∧ ¬ G b ∧ NoCells W b) W W' → S G W'
theorem range_ge {n : Nat} {P : Program} {g : Operand} {ps : Array Tmp} {assign body : Code} {Q : Exit → Act → World → Prop} {a : Act} {w : World} {gf : Nat} {rcv lb : Array Value}
    (hg : a.eval g = .func (.func gf) rcv lb) (eg : ∀ args w, (callFunc gf args).run P w = .ok (.enter gf args) w) (Ok Fin : Nat → Prop) (E : Nat → (Nat → Prop) → Array Value → World → Prop) (hps : ∀ i G v W, E i G v W → v.size = ps.size)
    (I : Nat → (Nat → Prop) → World → Prop) (X : Nat → Prop) (hX : ∀ b, X b → b < w.heap.size) (hI : StabX X I w.heap.size) (IS : (Nat → Prop) → World → Prop) (hIS : StabS IS w.heap.size) (G0 : Nat → Prop) (hG0 : ∀ b, G0 b → b < w.heap.size)
    (hit : ∀ (l : Nat) (W1 : World) (J : Nat → (Nat → Prop) → World → Prop) (S : (Nat → Prop) → World → Prop), w.heap.size ≤ l → l < W1.heap.size → Below w.heap.size w W1 → StabX X J W1.heap.size → StabS S W1.heap.size → (∀ i G W, J i G W → I i G W) → (∀ G W, S G W → IS G W) →
      (∀ i G W v, Ok i → J i G W → W1.heap.size ≤ W.heap.size → E i G v W → YieldAt Fence.wide (n - 1 - 1) P l v W (YldE l J S i G W)) → J 0 G0 W1 →
      CallsIn Fence.wide (n - 1) P gf (rcv ++ #[.func (.yield l) #[] #[]] ++ lb) W1 fun e W' => (∃ v, e = .returned v) ∧ ((∃ i G, Fin i ∧ J i G W') ∨ ∃ G, S G W'))
    (h0 : I 0 G0 w) (A : Nat → (Nat → Prop) → Act → World → Prop) (hAp : ∀ i G a' W r o, W.heap[w.heap.size + 1]? = some (.loop r) → A i G a' W → A i G a' (W.putObj (w.heap.size + 1) o))
    (hassign : ∀ (l i : Nat) (G : Nat → Prop) (W : World) (v : Array Value) (K : Act → World → Prop), Ok i → I i G W → w.heap.size + 1 < W.heap.size → E i G v W → (∀ a' W', Below W.heap.size W W' → A i G a' W' → K a' W') → assign.wpIn (Fence.wide.inRound l) (n - 1 - 1) P (Exit.then K fun _ _ _ => False) { tmps := (ps.zip v).foldl (fun t (p, v) => t.setIfInBounds p v) a.tmps, defers := [] } W)
    (hbody : ∀ (l i : Nat) (G : Nat → Prop) (a' : Act) (W : World), Ok i → I i G W → A i G a' W → body.wpIn (Fence.wide.inRound l) (n - 1 - 1) P (fun e _ W' => (e = .normal ∧ ∃ G', I (i + 1) G' W' ∧ KeepP G W W' ∧ ∀ b, G' b → G b ∨ W.heap.size ≤ b) ∨ (e = .ret ∧ ∃ G', IS G' W' ∧ KeepP G W W' ∧ ∀ b, G' b → G b ∨ W.heap.size ≤ b)) a' W)
    (hdone : ∀ (D i : Nat) (G : Nat → Prop) (W : World), w.heap.size ≤ D → ¬ G D → Fin i → I i G W → W.heap[D]? = some (.deferred (some [])) → Q .normal { a with defers := { target := .collected D, args := #[] } :: a.defers } W)
    (hstop : ∀ (D : Nat) (G : Nat → Prop) (W : World), w.heap.size ≤ D → ¬ G D → IS G W → W.heap[D]? = some (.deferred (some [])) → Q .ret { a with defers := { target := .collected D, args := #[] } :: a.defers } W) :
    (Code.rangeFunc g ps assign body).wpIn Fence.wide n P Q a w := by
  refine wpIn_rangeFunc fun fn _ => ?_
  obtain ⟨rc, hrc⟩ : ∃ rc : LoopState → Option Code → Loop, ∀ st pe, rc st pe = { state := st, pending := pe, fn, tmps := a.tmps, params := ps, assign, body, defers := w.heap.size } := ⟨_, fun _ _ => rfl⟩
  obtain ⟨V, hV⟩ : ∃ V, (w.alloc (.deferred (some []))).alloc (.loop (rc .ready none)) = V := ⟨_, rfl⟩
  have hbV : Below w.heap.size w V := hV ▸ ((Below.refl _ w).alloc (Nat.le_refl _) _).alloc (by simp) _
  have hL : V.heap[w.heap.size + 1]? = some (.loop (rc .ready none)) := by
    rw [← hV]; have := World.alloc_heap_new (w.alloc (.deferred (some []))) (.loop (rc .ready none)); rwa [World.size_alloc] at this
  have hD : V.heap[w.heap.size]? = some (.deferred (some [])) := by
    rw [← hV]; exact (Below.heap_alloc _ _ _ (by simp)).trans (World.alloc_heap_new w _)
  have hlV := (Array.getElem?_eq_some_iff.1 hL).1
  refine ⟨w.heap.size + 1, [{ target := .collected w.heap.size, args := #[] }], V, { target := .fn (.func gf) lb, args := rcv ++ #[.func (.yield (w.heap.size + 1)) #[] #[]] }, V, gf, rcv ++ #[.func (.yield (w.heap.size + 1)) #[] #[]] ++ lb, V, ?_, ?_, fun _ _ => trivial, ?_, fun h => by simp [Fence.wide] at h, ?_⟩
  · rw [← hV, hrc]; exact run_enterLoop_outer _ _ _ _ _
  · simp only [resolve, hg]
    simp [go_sem]
  · simp [invoke, go_sem, eg]
  · have keep : ∀ {A B : World} {k : Nat} {o : Obj}, A.heap[k]? = some o → Below A.heap.size A B → B.heap[k]? = some o := fun hx hb => (hb.block _ (Array.getElem?_eq_some_iff.1 hx).1).trans hx
    refine (hit (w.heap.size + 1) V (fun i G W => I i G W ∧ W.heap[w.heap.size + 1]? = some (.loop (rc .ready none)) ∧ W.heap[w.heap.size]? = some (.deferred (some [])) ∧ ¬ G (w.heap.size + 1) ∧ ¬ G w.heap.size) (fun G W => IS G W ∧ W.heap[w.heap.size + 1]? = some (.loop { rc .ready none with state := .done, pending := some .ret }) ∧ W.heap[w.heap.size]? = some (.deferred (some [])) ∧ ¬ G (w.heap.size + 1) ∧ ¬ G w.heap.size) (Nat.le_succ _) hlV hbV ?_ ?_ (fun _ _ _ h => h.1) (fun _ _ h => h.1) ?_ ⟨hI.below h0 hbV, hL, hD, fun h => by have := hG0 _ h; omega, fun h => by have := hG0 _ h; omega⟩).mono ?_
    · rintro i G W W' ⟨h1, h2, h3, h4, h5⟩ hk
      exact ⟨hI i G W W' h1 (hk.more fun k hk => hk.imp id fun hk => ⟨by have := hbV.size; omega, hk.2⟩), hk.block _ _ (fun e => e.elim (fun e => by have := hX _ e; omega) fun e => by omega) h2, hk.block _ _ (fun e => e.elim (fun e => by have := hX _ e; omega) fun e => by omega) h3, h4, h5⟩
    · rintro G W W' ⟨h1, h2, h3, h4, h5⟩ hk
      exact ⟨hIS G W W' h1 (hk.more fun k hk => ⟨by have := hbV.size; omega, hk.2⟩), hk.block _ _ (fun e => by omega) h2, hk.block _ _ (fun e => by omega) h3, h4, h5⟩
    · rintro i G W v hi ⟨hI0, hl, hd, hn1, hn2⟩ hsz hv
      have hy := run_yield (P := P) (args := v) hl (by rw [hrc]; exact hps i G v W hv)
      rw [hrc] at hy
      refine ⟨fn, _, assign, body, hy, roundIn_of_wpIn trivial (hassign _ i G W v _ hi hI0 (Array.getElem?_eq_some_iff.1 hl).1 hv fun a' W0 hb0 hA0 => ⟨_, run_beginRound (keep hl hb0) (by rw [hrc]), ?_⟩)⟩
      have hl0 := keep hl hb0
      have hd0 := keep hd hb0
      have hI0' : I i G W0 := hI.below hI0 hb0
      obtain ⟨Xx, hXx⟩ : ∃ X, W0.putObj (w.heap.size + 1) (.loop { rc .ready none with state := .busy }) = X := ⟨_, rfl⟩
      rw [hXx]
      have hlX : Xx.heap[w.heap.size + 1]? = some (.loop { rc .ready none with state := .busy }) := hXx ▸ World.putObj_heap_same (Array.getElem?_eq_some_iff.1 hl0).1
      have hoX : ∀ k, k ≠ w.heap.size + 1 → Xx.heap[k]? = W0.heap[k]? := fun k hk => hXx ▸ World.putObj_heap_other (fun e => hk e)
      have hIX : I i G Xx := hXx ▸ hI i G W0 _ hI0' (keepPX_put (by omega) hn1 hl0)
      have hAX : A i G a' Xx := hXx ▸ hAp i G a' W0 _ _ hl0 hA0
      have hzX : W.heap.size ≤ Xx.heap.size := by rw [← hXx, putObj_size]; exact hb0.size
      refine wpIn_mono (hbody _ i G a' Xx hi hIX hAX) ?_
      rintro e a3 Y (⟨rfl, G', hI3, hk, hG'⟩ | ⟨rfl, G', hS3, hk, hG'⟩)
      · have hlY := hk.block _ _ hn1 hlX
        have hr := run_endRound (P := P) none hlY
        obtain ⟨Z, hZ⟩ : ∃ Z, Y.putObj (w.heap.size + 1) (.loop { { rc .ready none with state := .busy } with state := if (none : Option Code).isNone then .ready else .done, pending := none }) = Z := ⟨_, rfl⟩
        rw [hZ] at hr
        have hlZ : Z.heap[w.heap.size + 1]? = some (.loop (rc .ready none)) := by
          rw [← hZ, World.putObj_heap_same (Array.getElem?_eq_some_iff.1 hlY).1, hrc]; rfl
        have hoZ : ∀ k, k ≠ w.heap.size + 1 → Z.heap[k]? = Y.heap[k]? := fun k hk => hZ ▸ World.putObj_heap_other (fun e => hk e)
        have hszl := (Array.getElem?_eq_some_iff.1 hlX).1
        have hn1' : ¬ G' (w.heap.size + 1) := fun h => (hG' _ h).elim hn1 (fun h => by omega)
        have hn2' : ¬ G' w.heap.size := fun h => (hG' _ h).elim hn2 (fun h => by omega)
        refine ⟨_, _, hr, .inl ⟨rfl, G', ⟨hZ ▸ hI _ _ Y _ hI3 (keepPX_put (by omega) hn1' hlY), hlZ, ?_, hn1', hn2'⟩, ?_, fun b hb => (hG' b hb).imp id fun h => Nat.le_trans hzX h⟩⟩
        · rw [hoZ _ (by omega)]
          exact hk.block _ _ hn2 ((hoX _ (by omega)).trans hd0)
        · refine ⟨?_, ?_, ?_, ?_, fun k o hk2 hx => ?_⟩
          · rw [← hZ]; exact hk.os.trans ((hXx ▸ rfl : Xx.os = W0.os).trans hb0.os)
          · rw [← hZ]; exact hk.tape.trans ((hXx ▸ rfl : Xx.tape = W0.tape).trans hb0.tape)
          · rw [← hZ]; exact hk.output.trans ((hXx ▸ rfl : Xx.output = W0.output).trans hb0.output)
          · rw [← hZ, putObj_size]; have := hk.size; omega
          · by_cases e : k = w.heap.size + 1
            · subst e; rw [hlZ, ← hl, hx]
            · rw [hoZ k e]; exact hk.block k o hk2 ((hoX k e).trans (keep hx hb0))
      · have hlY := hk.block _ _ hn1 hlX
        have hr := run_endRound (P := P) (some .ret) hlY
        obtain ⟨Z, hZ⟩ : ∃ Z, Y.putObj (w.heap.size + 1) (.loop { { rc .ready none with state := .busy } with state := if (some Code.ret).isNone then .ready else .done, pending := some .ret }) = Z := ⟨_, rfl⟩
        rw [hZ] at hr
        have hlZ : Z.heap[w.heap.size + 1]? = some (.loop { rc .ready none with state := .done, pending := some .ret }) := by
          rw [← hZ, World.putObj_heap_same (Array.getElem?_eq_some_iff.1 hlY).1, hrc]; rfl
        have hoZ : ∀ k, k ≠ w.heap.size + 1 → Z.heap[k]? = Y.heap[k]? := fun k hk => hZ ▸ World.putObj_heap_other (fun e => hk e)
        have hszl := (Array.getElem?_eq_some_iff.1 hlX).1
        have hn1' : ¬ G' (w.heap.size + 1) := fun h => (hG' _ h).elim hn1 (fun h => by omega)
        have hn2' : ¬ G' w.heap.size := fun h => (hG' _ h).elim hn2 (fun h => by omega)
        refine ⟨_, _, hr, .inr ⟨rfl, G', ⟨hZ ▸ hIS _ Y _ hS3 (keepP_put (by omega) hn1' hlY), hlZ, ?_, hn1', hn2'⟩, ?_⟩⟩
        · rw [hoZ _ (by omega)]
          exact hk.block _ _ hn2 ((hoX _ (by omega)).trans hd0)
        · refine ⟨?_, ?_, ?_, ?_, fun k o hk2 hx => ?_⟩
          · rw [← hZ]; exact hk.os.trans ((hXx ▸ rfl : Xx.os = W0.os).trans hb0.os)
          · rw [← hZ]; exact hk.tape.trans ((hXx ▸ rfl : Xx.tape = W0.tape).trans hb0.tape)
          · rw [← hZ]; exact hk.output.trans ((hXx ▸ rfl : Xx.output = W0.output).trans hb0.output)
          · rw [← hZ, putObj_size]; have := hk.size; omega
          · have e : k ≠ w.heap.size + 1 := fun e => hk2 (.inr e)
            rw [hoZ k e]; exact hk.block k o (fun h => hk2 (.inl h)) ((hoX k e).trans (keep hx hb0))
    · rintro e W2 ⟨⟨v, rfl⟩, ⟨i, G, hfin, hI2, hl, hd, hn1, hn2⟩ | ⟨G, hS2, hl, hd, hn1, hn2⟩⟩
      · have hr := run_endLoop (P := P) hl (by rw [hrc]; simp)
        refine ⟨none, _, by rw [hr, hrc], hdone _ i G _ (Nat.le_refl _) hn2 hfin (hI _ _ _ _ hI2 (keepPX_put (by omega) hn1 hl)) ((World.putObj_heap_other (by omega)).trans hd)⟩
      · have hr := run_endLoop (P := P) hl (by simp)
        refine ⟨some .ret, _, hr, wpIn_ret (hstop _ G _ (Nat.le_refl _) hn2 (hIS _ _ _ hS2 (keepP_put (by omega) hn1 hl)) ((World.putObj_heap_other (by omega)).trans hd))⟩
open Go.RowKit
structure Tg where
  b : Nat
  t : TypeId
  o : Array Value
  f : Array Value
def tgS : List Tg → Nat → Prop
  | [], _ => False
  | x :: r, k => x.b = k ∨ tgS r k
def Tg.was (x : Tg) (W : World) : Prop := W.heap[x.b]? = some (.cells x.o x.t (0, 0)) ∨ W.heap[x.b]? = some (.cells x.f x.t (0, 0))
def Tg.now (x : Tg) (W : World) : Prop := W.heap[x.b]? = some (.cells x.f x.t (0, 0))
def tgP : List Tg → List (World → Prop)
  | [] => []
  | x :: r => x.was :: x.now :: tgP r
def tgD : List Tg → Prop
  | [] => True
  | x :: r => (∀ y ∈ r, x.b ≠ y.b) ∧ tgD r
theorem tgP_mem : ∀ {l : List Tg} {p : World → Prop}, p ∈ tgP l → ∃ x ∈ l, p = x.was ∨ p = x.now
  | [], _, h => by simp [tgP] at h
  | x :: r, p, h => by
    simp only [tgP, List.mem_cons] at h
    rcases h with h | h | h
    · exact ⟨x, .head _, .inl h⟩
    · exact ⟨x, .head _, .inr h⟩
    · obtain ⟨y, hy, h'⟩ := tgP_mem h
      exact ⟨y, .tail _ hy, h'⟩
theorem tgP_was : ∀ {l : List Tg} {x : Tg}, x ∈ l → x.was ∈ tgP l ∧ x.now ∈ tgP l
  | [], _, h => by simp at h
  | y :: r, x, h => by
    rcases List.mem_cons.1 h with rfl | h
    · simp [tgP]
    · have := tgP_was h
      simp [tgP, this.1, this.2]
theorem tgS_of : ∀ {l : List Tg} {x : Tg}, x ∈ l → tgS l x.b
  | [], _, h => by simp at h
  | y :: r, x, h => by
    rcases List.mem_cons.1 h with rfl | h
    · exact .inl rfl
    · exact .inr (tgS_of h)
theorem tgD_eq : ∀ {l : List Tg} {x y : Tg}, tgD l → x ∈ l → y ∈ l → x.b = y.b → x = y
  | [], _, _, _, h, _, _ => by simp at h
  | z :: r, x, y, hd, hx, hy, e => by
    rcases List.mem_cons.1 hx with rfl | hx'
    · rcases List.mem_cons.1 hy with rfl | hy'
      · rfl
      · exact absurd e (hd.1 y hy')
    · rcases List.mem_cons.1 hy with rfl | hy'
      · exact absurd e.symm (hd.1 x hx')
      · exact tgD_eq hd.2 hx' hy' e
theorem tgP_stay (l : List Tg) : StayB (tgP l) := by
  intro p hp a b hb h
  obtain ⟨x, -, rfl | rfl⟩ := tgP_mem hp
  · rcases h with h | h
    · exact .inl (bwb h hb)
    · exact .inr (bwb h hb)
  · exact bwb h hb
section
variable {P : Program} {ops : Array Oper} {Q : Exit → Act → World → Prop} {l : List Tg}
theorem nowO_k {ds : List (List Nat)} {i b : Nat} {t : TypeId} {o f : Array Value} (hx : (⟨b, t, o, f⟩ : Tg) ∈ l) : KeepsL (LeX (tgS l) (tgP l)) ds i (fun _ _ W => W.heap[b]? = some (.cells f t (0, 0))) :=
  ⟨fun _ _ _ _ hb h => hb.stay _ (tgP_was hx).2 h, fun _ _ _ _ _ h => h⟩
theorem stoO_do {i b off : Nat} {t : TypeId} {o f : Array Value} (hd : tgD l) (hx : (⟨b, t, o, f⟩ : Tg) ∈ l) {a : Act} {W : World} {ty tt : TypeId} {x y : Operand} {pos : String} {af : Array Edge} {v : Value} (hw : Tg.was ⟨b, t, o, f⟩ W)
    (ho : ops[i]? = some { dst := none, op := .store ty x y, type := tt, pos := pos, after := af, guard := none }) (hp : a.eval x = .pointer (some ⟨b, off, none⟩)) (hy : a.eval y = v) (hi : (P.info? ty).map (·.size) = some v.cells.size) (h1 : v.cells.toList.all (·.oneCell') = true)
    (hl1 : decide (off + v.cells.size ≤ o.size) = true) (hl2 : decide (off + v.cells.size ≤ f.size) = true) (e1 : (o.toList.take off ++ v.cells.toList ++ o.toList.drop (off + v.cells.size)).toArray = f) (e2 : (f.toList.take off ++ v.cells.toList ++ f.toList.drop (off + v.cells.size)).toArray = f) :
    OpDoL (LeX (tgS l) (tgP l)) P ops Q i a W (fun _ W' => W'.heap[b]? = some (.cells f t (0, 0))) := by
  have key : ∀ cs, W.heap[b]? = some (.cells cs t (0, 0)) → decide (off + v.cells.size ≤ cs.size) = true → (cs.toList.take off ++ v.cells.toList ++ cs.toList.drop (off + v.cells.size)).toArray = f → OpDoL (LeX (tgS l) (tgP l)) P ops Q i a W (fun _ W' => W'.heap[b]? = some (.cells f t (0, 0))) := by
    intro cs hb hl e
    have hr := run_seg (P := P) (a := a) (dst := none) (ty := ty) (tt := tt) (x := x) (y := y) (pos := pos) (af := af) (gd := none) (W' := W.setRow b f) rfl hp hy hb hi hl h1 e
    have hnew := setRow_heap W b cs f t (0, 0) hb
    have hot : ∀ k z, k ≠ b → W.heap[k]? = some z → (W.setRow b f).heap[k]? = some z := fun k z hk hz => by rw [setRow_other W b k f hk]; exact hz
    refine opDoL_skip ho ⟨rfl, rfl⟩ hr ⟨rfl, rfl, rfl, by rw [setRow_size]; exact Nat.le_refl _, fun k hk hn => setRow_other W b k f fun e => hn (e ▸ tgS_of hx), fun p hp hpa => ?_⟩ hnew
    obtain ⟨z, hz, hz'⟩ := tgP_mem hp
    by_cases e : z.b = b
    · have hzx := tgD_eq hd hz hx e
      subst hzx
      rcases hz' with rfl | rfl
      · exact .inr hnew
      · exact hnew
    · rcases hz' with rfl | rfl
      · rcases hpa with h | h
        · exact .inl (hot _ _ e h)
        · exact .inr (hot _ _ e h)
      · exact hot _ _ e hpa
  rcases hw with h | h
  · exact key o h hl1 e1
  · exact key f h hl2 e2
end
end Go.Proofs.Ytcgccflcjejlhaa
