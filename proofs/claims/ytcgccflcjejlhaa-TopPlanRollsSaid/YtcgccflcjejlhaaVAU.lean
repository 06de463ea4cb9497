/- Part of the proof: what the claim leans on. -/
import Derived.Test.YtcgccflcjejlhaaVAT
set_option maxHeartbeats 8000000
set_option maxRecDepth 100000
set_option linter.unusedSimpArgs false
set_option linter.unusedVariables false
namespace Go.Proofs.Ytcgccflcjejlhaa
open Go.RowKit
def bgF (lg : Nat → Int) : Nat → Int
  | 0 => 0
  | i + 1 => bgF lg i + lg i
theorem bgF_bd {lg : Nat → Int} {m : Nat} (hq : ∀ i, i < m → RdIn (lg i)) : ∀ i, i ≤ m → 0 ≤ bgF lg i ∧ bgF lg i ≤ 100000 * (i : Int)
  | 0, _ => ⟨Int.le_refl _, Int.le_refl _⟩
  | i + 1, h => by
    have ih := bgF_bd hq i (by omega)
    have hi : 1 ≤ lg i ∧ lg i ≤ 100000 := hq i (by omega)
    show 0 ≤ bgF lg i + lg i ∧ bgF lg i + lg i ≤ 100000 * ((i + 1 : Nat) : Int)
    omega
theorem pieces_it (lg : Nat → Int) (qa : Option Addr) (m cq : Nat) {w : World} (hQ : RdL w qa m lg) (hq : ∀ i, i < m → RdIn (lg i)) (gm : m ≤ 10) (bw l : Nat) (G1 : Nat → Prop) (J : Nat → (Nat → Prop) → World → Prop) (SS : (Nat → Prop) → World → Prop) (v1 : World) (hB0 : Below w.heap.size w v1) (hbw : v1.heap[bw]? = some (.cells #[.slice qa m cq] 71 (0, 0))) (hJs : StabX (fun _ => False) J v1.heap.size) (hSs : StabS SS v1.heap.size) (hJG : ∀ i G W, J i G W → ∀ b, G b → w.heap.size ≤ b ∧ b < W.heap.size) (hGb : ∀ i G W, J i G W → ∀ b, G b → b < v1.heap.size) (hY : ∀ i G W, i < m → J i G W → v1.heap.size ≤ W.heap.size → YieldAt Fence.wide 8 Try.prog l #[.agg #[.int .i64 (lg i), .bool true, .int .i64 (i : Int), .int .i64 (bgF lg i), .int .i64 (bgF lg (i + 1))]] W (YldE l J SS i G W)) (hJ0 : J 0 G1 v1) :
  CallsIn Fence.wide 9 Try.prog 127 #[.func (.yield l) #[] #[], .pointer (some ⟨bw, 0, none⟩)] v1 fun e W' => (∃ v, e = .returned v) ∧ ((∃ i G, i = m ∧ J i G W') ∨ ∃ G, SS G W') := by
 have hzv_ := Below.size hB0
 refine callsIn_wide.2 (calls_frM (n := 9) Try.func127 Try.ntmps127 rfl rfl fun g hg => ?_)
 have k0 : g 0 = .func (.yield l) #[] #[] := hg 0
 have k1 : g 1 = .pointer (some ⟨bw, 0, none⟩) := hg 1
 clear hg
 have lt_bw := ltb hbw
 refine rw_ 1 [(3, 0)] [[]] (rel [iI 0])
  ⟨fun f s W c j p q r a => opv rfl rfl (by simp [go_sem]) rfl, trivial⟩ ?_
 intro f1 s1 W1 hB1 g1 hg1 z1
 have b1_0 := hB1.b hbw
 have q1' := (StabX.below hJs hJ0 hB1.below)
 have k1_1 := kt hg1 1 k1
 refine rw_ 3 [(6, 0), (7, 1), (8, 2)] [[], [0], []] (rel [is (.slice qa m cq), iI ((m : Int)), iI 0])
  ⟨fun f s W c j p q r a => opv rfl rfl (by simp [go_sem, a.e 1 k1_1, cb b1_0 c 0]) rfl,
  fun f s W c j p q r a => opv rfl rfl (by simp [go_sem, a.e 6 (j 0 rfl)]) rfl,
  fun f s W c j p q r a => opv rfl rfl (by simp [go_sem]) rfl, trivial⟩ ?_
 intro f2 s2 W2 hB2 g2 hg2 z2
 have fB2 := hB2.f (hB1.f hB0)
 have q2' := (StabX.below hJs q1' hB2.below)
 have k2_0 := kt hg2 0 (kt hg1 0 k0)
 have k2_3 := kt hg2 3 (kt hg1 3 (hB1.is 0))
 have k2_6 := kt hg2 6 (hB2.is 0)
 have k2_7 := kt hg2 7 (hB2.is 1)
 have k2_8 := kt hg2 8 (hB2.is 2)
 refine wp_block ?_
 refine wp_loop_n (fun m_ a_ W_ => ∃ g_ : Nat → Value, a_ = fr 29 g_ ∧ (∃ k : Nat, ∃ G : Nat → Prop, m_ = m - k ∧ g_ 0 = .func (.yield l) #[] #[] ∧ g_ 6 = .slice qa m cq ∧ g_ 7 = .int .i64 ((m : Int)) ∧ g_ 8 = .int .i64 ((k : Int)) ∧ g_ 3 = .int .i64 ((bgF lg k)) ∧ Below w.heap.size w W_ ∧ W2.heap.size ≤ W_.heap.size ∧ J k G W_ ∧ (k ≤ m))) ⟨_, g2, rfl, 0, G1, rfl, k2_0, k2_6, k2_7, k2_8.trans (by rfl), k2_3.trans (by rfl), fB2, Nat.le_refl _, q2', (by omega)⟩ ?_
 rintro _ _ W_3 ⟨g_3, rfl, k, G, rfl, k_3_0, k_3_6, k_3_7, k_3_8, k_3_3, fB_3, z_3, q4', lk0⟩
 refine rw_ 1 [(9, 0)] [[]] (rel [iB (decide ((k : Int) < (m : Int)))])
  ⟨fun f s W c j p q r a => opv rfl rfl (by simp [go_sem, a.e 8 k_3_8, a.e 7 k_3_7]) rfl, trivial⟩ ?_
 intro f3 s3 W3 hB3 g3 hg3 z3
 have fB3 := hB3.f fB_3
 have q5' := (StabX.below hJs q4' hB3.below)
 have k3_6 := kt hg3 6 k_3_6
 have k3_8 := kt hg3 8 k_3_8
 have k3_9 := kt hg3 9 (hB3.is 0)
 refine wp_seq_k fun K4 hK4 => ?_
 refine wp_cond_split (t := decide ((k : Int) < (m : Int))) ((fr_eval rfl).trans k3_9) (fun hc5 => ?_) (fun hc5 => ?_)
 ·
  have hc5' := hc5; try simp only [ba] at hc5'
  have hkn : k < m := by omega
  have hbd_ := bgF_bd hq k (by omega)
  have hqk_ : 1 ≤ lg k ∧ lg k ≤ 100000 := hq k hkn
  have hGlt_ := fun b hb => (hJG _ _ _ q5' b hb).2
  obtain ⟨bo, oo, hqa, hO'⟩ := hQ.at hkn
  subst hqa
  ·
   refine wp_skip ?_
   refine hK4 _ _ ?_
   refine wp_seq_k fun K6 hK6 => ?_
   refine wp_block ?_
   refine wp_seq_k fun K7 hK7 => ?_
   refine ry 5 [(10, 0), (11, 1), (12, 2), (5, 3), (4, 4)] [[], [], [1], [], [0, 1, 2, 3], [0, 1, 2, 3, 4]] (rel [iI ((k : Int)), is (.pointer (some ⟨bo, oo + k * 2, none⟩)), is (.agg #[.int .i64 ((lg k)), .bool true]), bx 3 #[.int .i64 0, .bool false] 76, iI ((k : Int))])
    ⟨fun f s W c j p q r a => opv rfl rfl (by simp [go_sem, a.e 8 k3_8]) rfl,
  fun f s W c j p q r a => by have li_ := Nat.not_le.2 (show k < m by omega); have li2_ : (k : Int) < (m : Int) := (by omega); exact opv rfl rfl (by simp [go_sem, a.e 6 k3_6, a.e 8 k3_8, li_, li2_]) rfl,
  fun f s W c j p q r a => by have u := bwt fB3 c; have cu_ := (hO'.below u).2 k (by omega); have cu0_ : W.cell? ⟨bo, oo + k * 2, none⟩ = some (.int .i64 (lg k)) := cu_.1; have cu1_ : W.cell? ⟨bo, oo + k * 2 + 1, none⟩ = some (.bool true) := cu_.2; exact opv rfl rfl (by simp [go_sem, a.e 11 (j 1 rfl), cu0_, cu1_]) rfl,
  fun f s W c j p q r a => opb rfl rfl (by simp [go_sem]),
  fun f s W c j p q r a => opv rfl rfl (by simp [go_sem, a.e 10 (j 0 rfl)]) rfl, trivial⟩ ?_
   intro f4 s4 W4 hB4 g4 hg4 z4
   have fB4 := hB4.f fB3
   have q6' := (StabX.below hJs q5' hB4.below)
   obtain ⟨r4_3, br4_3⟩ := hB4.is 3
   have lr4_3 := hB4.lr 3 br4_3
   have k4_0 := kt hg4 0 (kt hg3 0 k_3_0)
   have k4_12 := kt hg4 12 (hB4.is 2)
   have k4_5 := kt hg4 5 r4_3
   obtain ⟨W5, hW5⟩ : ∃ W', W' = W4.setRow (s4 3) #[.int .i64 ((lg k)), .bool true] := ⟨_, rfl⟩
   refine tsk (o := _) rfl ⟨rfl, rfl⟩ (run_seg hW5 (fr_ev k4_5) (fr_ev k4_12) br4_3 rfl rfl rfl rfl) ?_
   obtain ⟨fB5, nb5, ot5, z5⟩ := sgf hW5 fB4 br4_3 (by omega)
   have q7' := (hJs _ _ _ _ q6' (keepX_P (keepX_row hW5) (.inr ⟨by omega, fun hg_ => by have := hGlt_ _ hg_; omega⟩)))
   clear hW5
   refine wpe ?_
   refine hK7 _ _ ?_
   refine wp_seq_k fun K8 hK8 => ?_
   refine wp_seq_k fun K9 hK9 => ?_
   refine (wpIn_wide (n := 9)).1 (wpIn_region ?_)
   show wpOpsIn _ _ _ _ _ [0, 1, 2, 3, 4, 5, 6, 7, 8, 9, 10] _ _
   refine inP_value (o := _) rfl rfl rfl (v := .func (.yield l) #[] #[]) (by simp [go_sem, frv 29 k4_0]) ?_
   generalize hg6 : upd g4 13 (.func (.yield l) #[] #[]) = g6
   have k6_5 := ku hg6 5 k4_5
   refine inP_value (o := _) rfl rfl rfl (v := .agg #[.int .i64 ((lg k)), .bool true]) (by simp [go_sem, frv 29 k6_5, cl nb5 0, cl nb5 1]) ?_
   generalize hg7 : upd g6 14 (.agg #[.int .i64 ((lg k)), .bool true]) = g7
   have k7_4 := ku hg7 4 (ku hg6 4 (kt hg4 4 (hB4.is 4)))
   refine inP_value (o := _) rfl rfl rfl (v := .int .i64 ((k : Int))) (by simp [go_sem, frv 29 k7_4]) ?_
   generalize hg8 : upd g7 15 (.int .i64 ((k : Int))) = g8
   have k8_3 := ku hg8 3 (ku hg7 3 (ku hg6 3 (kt hg4 3 (kt hg3 3 k_3_3))))
   refine inP_value (o := _) rfl rfl rfl (v := .int .i64 ((bgF lg k))) (by simp [go_sem, frv 29 k8_3]) ?_
   generalize hg9 : upd g8 16 (.int .i64 ((bgF lg k))) = g9
   have k9_3 := ku hg9 3 k8_3
   refine inP_value (o := _) rfl rfl rfl (v := .int .i64 ((bgF lg k))) (by simp [go_sem, frv 29 k9_3]) ?_
   generalize hg10 : upd g9 17 (.int .i64 ((bgF lg k))) = g10
   have k10_5 := ku hg10 5 (ku hg9 5 (ku hg8 5 (ku hg7 5 k6_5)))
   refine inP_value (o := _) rfl rfl rfl (v := .pointer (some ⟨(s4 3), 0, none⟩)) (by simp [go_sem, frv 29 k10_5]) ?_
   generalize hg11 : upd g10 18 (.pointer (some ⟨(s4 3), 0, none⟩)) = g11
   have k11_18 := kt hg11 18 (upd_same _ _ _)
   refine inP_value (o := _) rfl rfl rfl (v := .int .i64 ((lg k))) (by simp [go_sem, frv 29 k11_18, cl nb5 0]) ?_
   generalize hg12 : upd g11 19 (.int .i64 ((lg k))) = g12
   have k12_17 := ku hg12 17 (ku hg11 17 (kt hg10 17 (upd_same _ _ _)))
   have k12_19 := kt hg12 19 (upd_same _ _ _)
   have bn_ : (bgF lg k) + (lg k) = bgF lg (k + 1) := rfl
   have bw_ := IntWalk.i64_in (bgF lg (k + 1)) (by have h_ : bgF lg (k + 1) = (bgF lg k) + (lg k) := rfl; omega)
   refine inP_value (o := _) rfl rfl rfl (v := .int .i64 ((bgF lg (k + 1)))) (by simp [go_sem, frv 29 k12_17, frv 29 k12_19, bn_, bw_]) ?_
   generalize hg13 : upd g12 20 (.int .i64 ((bgF lg (k + 1)))) = g13
   have k13_14 := ku hg13 14 (ku hg12 14 (ku hg11 14 (ku hg10 14 (ku hg9 14 (ku hg8 14 (kt hg7 14 (upd_same _ _ _)))))))
   have k13_15 := ku hg13 15 (ku hg12 15 (ku hg11 15 (ku hg10 15 (ku hg9 15 (kt hg8 15 (upd_same _ _ _))))))
   have k13_16 := ku hg13 16 (ku hg12 16 (ku hg11 16 (ku hg10 16 (kt hg9 16 (upd_same _ _ _)))))
   have k13_20 := kt hg13 20 (upd_same _ _ _)
   refine inP_value (o := _) rfl rfl rfl (v := .agg #[.int .i64 ((lg k)), .bool true, .int .i64 ((k : Int)), .int .i64 ((bgF lg k)), .int .i64 ((bgF lg (k + 1)))]) (by simp [go_sem, frv 29 k13_14, frv 29 k13_15, frv 29 k13_16, frv 29 k13_20]) ?_
   generalize hg14 : upd g13 21 (.agg #[.int .i64 ((lg k)), .bool true, .int .i64 ((k : Int)), .int .i64 ((bgF lg k)), .int .i64 ((bgF lg (k + 1)))]) = g14
   have k14_0 := ku hg14 0 (ku hg13 0 (ku hg12 0 (ku hg11 0 (ku hg10 0 (ku hg9 0 (ku hg8 0 (ku hg7 0 (ku hg6 0 k4_0))))))))
   have k14_6 := ku hg14 6 (ku hg13 6 (ku hg12 6 (ku hg11 6 (ku hg10 6 (ku hg9 6 (ku hg8 6 (ku hg7 6 (ku hg6 6 (kt hg4 6 k3_6)))))))))
   have k14_7 := ku hg14 7 (ku hg13 7 (ku hg12 7 (ku hg11 7 (ku hg10 7 (ku hg9 7 (ku hg8 7 (ku hg7 7 (ku hg6 7 (kt hg4 7 (kt hg3 7 k_3_7))))))))))
   have k14_8 := ku hg14 8 (ku hg13 8 (ku hg12 8 (ku hg11 8 (ku hg10 8 (ku hg9 8 (ku hg8 8 (ku hg7 8 (ku hg6 8 (kt hg4 8 k3_8)))))))))
   have k14_3 := ku hg14 3 (ku hg13 3 (ku hg12 3 (ku hg11 3 (ku hg10 3 k9_3))))
   have k14_5 := ku hg14 5 (ku hg13 5 (ku hg12 5 (ku hg11 5 k10_5)))
   have k14_13 := ku hg14 13 (ku hg13 13 (ku hg12 13 (ku hg11 13 (ku hg10 13 (ku hg9 13 (ku hg8 13 (ku hg7 13 (kt hg6 13 (upd_same _ _ _)))))))))
   have k14_21 := kt hg14 21 (upd_same _ _ _)
   refine inP_round (o := _) (d := 22) rfl rfl rfl (l := l) (args := #[.agg #[.int .i64 ((lg k)), .bool true, .int .i64 ((k : Int)), .int .i64 ((bgF lg k)), .int .i64 ((bgF lg (k + 1)))]]) (by simp [go_sem, frv 29 k14_13, frv 29 k14_21]) (yieldAt_fuel (hY k _ _ hkn q7' (by omega))) ?_ (fun _ h => by rcases h with h | h <;> exact nomatch h.1) (fun _ _ h => by rcases h with h | h <;> exact nomatch h.1)
   rintro v_ W15 (⟨rv15, G15, jj15, kx15, gg15⟩ | ⟨rv15, G15, jj15, kl15⟩)
   ·
    obtain rfl := Ending.returned.inj rv15
    have kz15 := kx15.size
    have hge15 := hJG _ _ _ q7'
    have fB15 : Below w.heap.size w W15 := Below.trans fB5 (kx15.below (fun b hb => (hge15 b hb).1) (Below.size fB5))
    have by15_s43 := kx15.block _ _ (fun e => by have := hge15 _ e; have := hGlt_ _ e; omega) nb5
    generalize hg15 : upd g14 22 (.bool true) = g15
    have k15_0 := ku hg15 0 k14_0
    have k15_6 := ku hg15 6 k14_6
    have k15_7 := ku hg15 7 k14_7
    have k15_8 := ku hg15 8 k14_8
    have k15_3 := ku hg15 3 k14_3
    have k15_5 := ku hg15 5 k14_5
    have k15_22 := kt hg15 22 (upd_same _ _ _)
    refine inP_value (o := _) rfl rfl rfl (v := .bool false) (by simp [go_sem, frv 29 k15_22]) ?_
    generalize hg16 : upd g15 23 (.bool false) = g16
    have k16_0 := ku hg16 0 k15_0
    have k16_6 := ku hg16 6 k15_6
    have k16_7 := ku hg16 7 k15_7
    have k16_8 := ku hg16 8 k15_8
    have k16_3 := ku hg16 3 k15_3
    have k16_5 := ku hg16 5 k15_5
    have k16_23 := kt hg16 23 (upd_same _ _ _)
    refine hK9 _ _ ?_
    refine wp_cond_false ((fr_eval rfl).trans k16_23) ?_
    refine wp_skip ?_
    refine hK8 _ _ ?_
    refine ry 5 [(24, 0), (25, 1), (26, 2), (27, 3), (3, 4)] [[], [], [1], [0, 1, 2], [0, 1, 2, 3]] (rel [iI ((bgF lg k)), is (.pointer (some ⟨(s4 3), 0, none⟩)), iI ((lg k)), iI ((bgF lg (k + 1))), iI ((bgF lg (k + 1)))])
     ⟨fun f s W c j p q r a => opv rfl rfl (by simp [go_sem, a.e 3 ((q 4 3 rfl rfl).trans k16_3)]) rfl,
  fun f s W c j p q r a => opv rfl rfl (by simp [go_sem, a.e 5 k16_5]) rfl,
  fun f s W c j p q r a => opv rfl rfl (by simp [go_sem, a.e 25 (j 1 rfl), cb by15_s43 c 0]) rfl,
  fun f s W c j p q r a => by have rn_ : (bgF lg k) + (lg k) = (bgF lg (k + 1)) := rfl; have rm_ := IntWalk.i64_in (bgF lg (k + 1)) (by omega); exact opv rfl rfl (by simp [go_sem, a.e 24 (j 0 rfl), a.e 26 (j 2 rfl), IntWalk.i64_in ((bgF lg k) + (lg k)) (by omega), rn_, rm_]) rfl,
  fun f s W c j p q r a => opv rfl rfl (by simp [go_sem, a.e 27 (j 3 rfl)]) rfl, trivial⟩ ?_
    intro f17 s17 W17 hB17 g17 hg17 z17
    have fB17 := hB17.f fB15
    have q8' := (StabX.below hJs jj15 hB17.below)
    refine wpe ?_
    have k17_0 := kt hg17 0 k16_0
    have k17_6 := kt hg17 6 k16_6
    have k17_7 := kt hg17 7 k16_7
    have k17_8 := kt hg17 8 k16_8
    have k17_3 := kt hg17 3 (hB17.is 4)
    refine ibn ?_
    refine hK6 _ _ ?_
    refine ry 2 [(28, 0), (8, 1)] [[], [0]] (rel [iI ((k : Int) + 1), iI ((k : Int) + 1)])
     ⟨fun f s W c j p q r a => opv rfl rfl (by simp [go_sem, a.e 8 ((q 1 8 rfl rfl).trans k17_8), IntWalk.i64_in ((k : Int) + 1) (by omega)]) rfl,
  fun f s W c j p q r a => opv rfl rfl (by simp [go_sem, a.e 28 (j 0 rfl)]) rfl, trivial⟩ ?_
    intro f18 s18 W18 hB18 g18 hg18 z18
    have fB18 := hB18.f fB17
    have q9' := (StabX.below hJs q8' hB18.below)
    refine wpe ?_
    have k18_0 := kt hg18 0 k17_0
    have k18_6 := kt hg18 6 k17_6
    have k18_7 := kt hg18 7 k17_7
    have k18_3 := kt hg18 3 k17_3
    have k18_8 := kt hg18 8 (hB18.is 1)
    refine then_normal ?_
    exact ⟨_, by omega, g18, rfl, k + 1, G15, rfl, k18_0, k18_6, k18_7, k18_8.trans (by go_num), k18_3.trans (by go_num), fB18, (by omega), q9', (by omega)⟩
   ·
    obtain rfl := Ending.returned.inj rv15
    generalize hg15 : upd g14 22 (.bool false) = g15
    have k15_0 := ku hg15 0 k14_0
    have k15_6 := ku hg15 6 k14_6
    have k15_7 := ku hg15 7 k14_7
    have k15_8 := ku hg15 8 k14_8
    have k15_3 := ku hg15 3 k14_3
    have k15_5 := ku hg15 5 k14_5
    have k15_22 := kt hg15 22 (upd_same _ _ _)
    refine inP_value (o := _) rfl rfl rfl (v := .bool true) (by simp [go_sem, frv 29 k15_22]) ?_
    generalize hg19 : upd g15 23 (.bool true) = g19
    have k19_23 := kt hg19 23 (upd_same _ _ _)
    refine hK9 _ _ ?_
    refine wp_cond_true ((fr_eval rfl).trans k19_23) ?_
    refine wp_ret ?_
    refine then_ret (inBlock_ret (then_ret (then_ret (inBlock_ret ?_))))
    exact leave_marks (v := .tuple #[]) (Ds := []) (.inr rfl) rfl rfl ⟨.nil, fun _ h => nomatch h⟩ (fun W' => by simp [results, Try.results127, go_sem]) fun W' hk => ⟨⟨_, rfl⟩, .inr ⟨_, hSs _ _ _ jj15 (hk.more fun b hb => (nomatch hb))⟩⟩
 ·
  have hc5' := hc5; try simp only [ba] at hc5'
  have hkn : k = m := by omega
  refine wp_exit ?_
  refine then_exit ?_
  refine then_exit ?_
  refine inBlock_at ?_
  refine leave_marks (v := .tuple #[]) (Ds := []) (.inl rfl) rfl rfl ⟨.nil, fun _ h => nomatch h⟩ (fun W' => by simp [results, Try.results127, go_sem]) fun W' hk => ⟨⟨_, rfl⟩, .inl ?_⟩
  have hJe := hJs _ _ _ _ q5' (hk.more fun b hb => (nomatch hb))
  rw [hkn] at hJe
  exact ⟨_, _, rfl, hJe⟩
end Go.Proofs.Ytcgccflcjejlhaa
