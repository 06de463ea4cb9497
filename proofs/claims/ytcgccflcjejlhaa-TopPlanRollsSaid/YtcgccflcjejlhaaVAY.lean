/- Part of the proof: what the claim leans on. -/
import Derived.Test.YtcgccflcjejlhaaVAX
set_option maxHeartbeats 8000000
set_option maxRecDepth 100000
set_option linter.unusedSimpArgs false
set_option linter.unusedVariables false
namespace Go.Proofs.Ytcgccflcjejlhaa
open Go.RowKit
def IsBw (B : Nat) (ra : Option Addr) (n c : Nat) (v : Value) (W : World) : Prop := ∃ b, v = .func (.func 125) #[] #[.pointer (some ⟨b, 0, none⟩)] ∧ W.heap[b]? = some (.cells #[.slice ra n c] 45 (0, 0)) ∧ B ≤ b
theorem IsBw.below {B : Nat} {ra : Option Addr} {n c : Nat} {v : Value} {W W' : World} (h : IsBw B ra n c v W) (hb : Below W.heap.size W W') : IsBw B ra n c v W' := by
  obtain ⟨b, e, h1, h2⟩ := h; exact ⟨b, e, bwb h1 hb, h2⟩
theorem ro_backward (ra : Option Addr) (n c : Nat) (w : World) :
  Calls Try.prog 83 #[.slice ra n c] w (fun e w' => ∃ v, e = .returned v ∧ IsBw w.heap.size ra n c v w' ∧ Below w.heap.size w w') := by
 refine calls_fr Try.func83 Try.ntmps83 rfl rfl fun g hg => ?_
 have k0 : g 0 = .slice ra n c := hg 0
 clear hg
 have fB0 : Below w.heap.size w w := Below.refl _ _
 refine rw_ 2 [(1, 0), (2, 1)] [[], []] (rel [bx 0 #[.slice ra n c] 45, is (.nilFunc)])
  ⟨fun f s W d h i j k a => opb rfl rfl (by simp [go_sem, a.e 0 k0]),
  fun f s W d h i j k a => opv rfl rfl (by simp [go_sem]) rfl, trivial⟩ ?_
 intro f1 s1 W1 hB1 g1 hg1 z1
 obtain ⟨r1_0, br1_0⟩ := hB1.is 0
 have lr1_0 := hB1.lr 0 br1_0
 have k1_1 := kt hg1 1 r1_0
 refine rw_ 2 [(3, 0), (2, 1)] [[], [0]] (rel [is (.func (.func 125) #[] #[.pointer (some ⟨(s1 0), 0, none⟩)]), is (.func (.func 125) #[] #[.pointer (some ⟨(s1 0), 0, none⟩)])])
  ⟨fun f s W d h i j k a => opv rfl rfl (by simp [go_sem, a.e 1 k1_1]) rfl,
  fun f s W d h i j k a => opm (a.v 3 (h 0 rfl)), trivial⟩ ?_
 intro f2 s2 W2 hB2 g2 hg2 z2
 have fB2 := hB2.f (hB1.f fB0)
 have b2_0 := hB2.b br1_0
 have k2_2 := kt hg2 2 (hB2.is 1)
 refine wp_ret ?_
 refine leave_one (N := 4) (.inr rfl) Try.results83 rfl k2_2 ?_
 exact ⟨_, rfl, ⟨_, rfl, b2_0, by omega⟩, fB2⟩
theorem backward_it (ss : Nat → Int × Int) (ra : Option Addr) (n c : Nat) {w : World} (hO : SpL w ra n ss) (gn : n ≤ 6) (bw l : Nat) (G1 : Nat → Prop) (J : Nat → (Nat → Prop) → World → Prop) (SS : (Nat → Prop) → World → Prop) (v1 : World) (hB0 : Below w.heap.size w v1) (hbw : v1.heap[bw]? = some (.cells #[.slice ra n c] 45 (0, 0))) (hJs : StabG J v1.heap.size) (hSs : StabS SS v1.heap.size) (hJG : ∀ i G W, J i G W → ∀ b, G b → w.heap.size ≤ b ∧ b < W.heap.size) (hGbw : ∀ i G W, J i G W → ¬ G bw) (hY : ∀ i G W, i < n → J i G W → v1.heap.size ≤ W.heap.size → ∀ u, i + u + 1 = n → YieldAt Fence.wide 8 Try.prog l #[.int .i64 (u : Int), .agg #[.int .i64 (ss u).1, .int .i64 (ss u).2]] W (YldE l J SS i G W)) (hJ0 : J 0 G1 v1) :
  CallsIn Fence.wide 9 Try.prog 125 #[.func (.yield l) #[] #[], .pointer (some ⟨bw, 0, none⟩)] v1 fun e W' => (∃ v, e = .returned v) ∧ ((∃ i G, i = n ∧ J i G W') ∨ ∃ G, SS G W') := by
 have hzv_ := Below.size hB0
 refine callsIn_wide.2 (calls_frM (n := 9) Try.func125 Try.ntmps125 rfl rfl fun g hg => ?_)
 have k0 : g 0 = .func (.yield l) #[] #[] := hg 0
 have k1 : g 1 = .pointer (some ⟨bw, 0, none⟩) := hg 1
 clear hg
 have lt_bw := ltb hbw
 refine rw_ 4 [(4, 0), (5, 1), (6, 2), (3, 3)] [[], [0], [0, 1], [0, 1, 2]] (rel [is (.slice ra n c), iI ((n : Int)), iI ((n : Int) - 1), iI ((n : Int) - 1)])
  ⟨fun f s W j m p q r a => opv rfl rfl (by simp [go_sem, a.e 1 k1, cb hbw j 0]) rfl,
  fun f s W j m p q r a => opv rfl rfl (by simp [go_sem, a.e 4 (m 0 rfl)]) rfl,
  fun f s W j m p q r a => opv rfl rfl (by simp [go_sem, a.e 5 (m 1 rfl), IntWalk.i64_in ((n : Int) - 1) (by omega)]) rfl,
  fun f s W j m p q r a => opv rfl rfl (by simp [go_sem, a.e 6 (m 2 rfl)]) rfl, trivial⟩ ?_
 intro f1 s1 W1 hB1 g1 hg1 z1
 have fB1 := hB1.f hB0
 have b1_0 := hB1.b hbw
 have q1' := (StabG.below hJs hJ0 hB1.below)
 have k1_0 := kt hg1 0 k0
 have k1_1 := kt hg1 1 k1
 have k1_3 := kt hg1 3 (hB1.is 3)
 refine wp_block ?_
 refine wp_loop_n (fun m_ a_ W_ => ∃ g_ : Nat → Value, a_ = fr 19 g_ ∧ (∃ k : Nat, ∃ u : Nat, ∃ G : Nat → Prop, m_ = n - k ∧ g_ 0 = .func (.yield l) #[] #[] ∧ g_ 1 = .pointer (some ⟨bw, 0, none⟩) ∧ g_ 3 = .int .i64 ((u : Int) - 1) ∧ Below w.heap.size w W_ ∧ W1.heap.size ≤ W_.heap.size ∧ W_.heap[bw]? = some (.cells #[.slice ra n c] 45 (0, 0)) ∧ J k G W_ ∧ (k + u = n))) ⟨_, g1, rfl, 0, n, G1, rfl, k1_0, k1_1, k1_3.trans (by rfl), fB1, Nat.le_refl _, b1_0, q1', (by omega)⟩ ?_
 rintro _ _ W_2 ⟨g_2, rfl, k, u, G, rfl, k_2_0, k_2_1, k_2_3, fB_2, z_2, b_2_0, q3', lk0⟩
 refine wp_seq_k fun K2 hK2 => ?_
 refine rw_ 2 [(7, 0), (8, 1)] [[], [0]] (rel [iI ((u : Int) - 1), iB (decide (0 ≤ ((u : Int) - 1)))])
  ⟨fun f s W j m p q r a => opv rfl rfl (by simp [go_sem, a.e 3 k_2_3]) rfl,
  fun f s W j m p q r a => opv rfl rfl (by simp [go_sem, a.e 7 (m 0 rfl)]) rfl, trivial⟩ ?_
 intro f2 s2 W2 hB2 g2 hg2 z2
 have fB2 := hB2.f fB_2
 have b2_0 := hB2.b b_2_0
 have q4' := (StabG.below hJs q3' hB2.below)
 have k2_0 := kt hg2 0 k_2_0
 have k2_3 := kt hg2 3 k_2_3
 have k2_8 := kt hg2 8 (hB2.is 1)
 refine wp_cond_split (t := decide (0 ≤ ((u : Int) - 1))) ((fr_eval rfl).trans k2_8) (fun hc4 => ?_) (fun hc4 => ?_)
 ·
  have hc4' := hc4; try simp only [ba] at hc4'
  obtain ⟨u0, rfl⟩ : ∃ u0, u = u0 + 1 := ⟨u - 1, by omega⟩
  have hkn : k < n := by omega
  have k3n_ : g2 3 = .int .i64 (u0 : Int) := k2_3.trans (by congr 1; omega)
  obtain ⟨bo, oo, hra, hO'⟩ := hO.at hkn
  subst hra
  ·
   refine wp_skip ?_
   refine hK2 _ _ ?_
   refine wp_seq_k fun K5 hK5 => ?_
   refine wp_block ?_
   refine wp_seq_k fun K6 hK6 => ?_
   refine (wpIn_wide (n := 9)).1 (wpIn_region ?_)
   show wpOpsIn _ _ _ _ _ [0, 1, 2, 3, 4, 5, 6, 7] _ _
   refine inP_value (o := _) rfl rfl rfl (v := .func (.yield l) #[] #[]) (by simp [go_sem, frv 19 k2_0]) ?_
   generalize hg3 : upd g2 11 (.func (.yield l) #[] #[]) = g3
   have k3_3 := ku hg3 3 k3n_
   refine inP_value (o := _) rfl rfl rfl (v := .int .i64 ((u0 : Int))) (by simp [go_sem, frv 19 k3_3]) ?_
   generalize hg4 : upd g3 12 (.int .i64 ((u0 : Int))) = g4
   have k4_1 := ku hg4 1 (ku hg3 1 (kt hg2 1 k_2_1))
   refine inP_value (o := _) rfl rfl rfl (v := .slice ((some ⟨bo, oo, none⟩)) (n) (c)) (by simp [go_sem, frv 19 k4_1, cl b2_0 0]) ?_
   generalize hg5 : upd g4 13 (.slice ((some ⟨bo, oo, none⟩)) (n) (c)) = g5
   have k5_3 := ku hg5 3 (ku hg4 3 k3_3)
   refine inP_value (o := _) rfl rfl rfl (v := .int .i64 ((u0 : Int))) (by simp [go_sem, frv 19 k5_3]) ?_
   generalize hg6 : upd g5 14 (.int .i64 ((u0 : Int))) = g6
   have k6_13 := ku hg6 13 (kt hg5 13 (upd_same _ _ _))
   have k6_14 := kt hg6 14 (upd_same _ _ _)
   have li_ := Nat.not_le.2 (show u0 < n by omega)
   have li2_ : (u0 : Int) < (n : Int) := (by omega)
   have li3_ : (0 : Int) ≤ (u0 : Int) := (by omega)
   refine inP_value (o := _) rfl rfl rfl (v := .pointer (some ⟨bo, oo + u0 * 2, none⟩)) (by simp [go_sem, frv 19 k6_13, frv 19 k6_14, li_, li2_, li3_]) ?_
   generalize hg7 : upd g6 15 (.pointer (some ⟨bo, oo + u0 * 2, none⟩)) = g7
   have k7_15 := kt hg7 15 (upd_same _ _ _)
   have cu_ := (hO'.below fB2).2 u0 (by omega)
   refine inP_value (o := _) rfl rfl rfl (v := .agg #[.int .i64 ((ss u0).1), .int .i64 ((ss u0).2)]) (by simp [go_sem, frv 19 k7_15, cu_.1, cu_.2]) ?_
   generalize hg8 : upd g7 16 (.agg #[.int .i64 ((ss u0).1), .int .i64 ((ss u0).2)]) = g8
   have k8_0 := ku hg8 0 (ku hg7 0 (ku hg6 0 (ku hg5 0 (ku hg4 0 (ku hg3 0 k2_0)))))
   have k8_1 := ku hg8 1 (ku hg7 1 (ku hg6 1 (ku hg5 1 k4_1)))
   have k8_3 := ku hg8 3 (ku hg7 3 (ku hg6 3 k5_3))
   have k8_11 := ku hg8 11 (ku hg7 11 (ku hg6 11 (ku hg5 11 (ku hg4 11 (kt hg3 11 (upd_same _ _ _))))))
   have k8_12 := ku hg8 12 (ku hg7 12 (ku hg6 12 (ku hg5 12 (kt hg4 12 (upd_same _ _ _)))))
   have k8_16 := kt hg8 16 (upd_same _ _ _)
   refine inP_round (o := _) (d := 17) rfl rfl rfl (l := l) (args := #[.int .i64 ((u0 : Int)), .agg #[.int .i64 ((ss u0).1), .int .i64 ((ss u0).2)]]) (by simp [go_sem, frv 19 k8_11, frv 19 k8_12, frv 19 k8_16]) (yieldAt_fuel (hY k _ _ hkn q4' (by omega) u0 (by omega))) ?_ (fun _ h => by rcases h with h | h <;> exact nomatch h.1) (fun _ _ h => by rcases h with h | h <;> exact nomatch h.1)
   rintro v_ W9 (⟨rv9, G9, jj9, kx9, gg9⟩ | ⟨rv9, G9, jj9, kl9⟩)
   ·
    obtain rfl := Ending.returned.inj rv9
    have kz9 := kx9.size
    have hge9 := hJG _ _ _ q4'
    have fB9 : Below w.heap.size w W9 := Below.trans fB2 (kx9.below (fun b hb => (hge9 b hb).1) (Below.size fB2))
    have by9_bw := kx9.block _ _ (fun e => hGbw _ _ _ q4' e) b2_0
    generalize hg9 : upd g8 17 (.bool true) = g9
    have k9_0 := ku hg9 0 k8_0
    have k9_1 := ku hg9 1 k8_1
    have k9_3 := ku hg9 3 k8_3
    have k9_17 := kt hg9 17 (upd_same _ _ _)
    refine inP_value (o := _) rfl rfl rfl (v := .bool false) (by simp [go_sem, frv 19 k9_17]) ?_
    generalize hg10 : upd g9 18 (.bool false) = g10
    have k10_0 := ku hg10 0 k9_0
    have k10_1 := ku hg10 1 k9_1
    have k10_3 := ku hg10 3 k9_3
    have k10_18 := kt hg10 18 (upd_same _ _ _)
    refine hK6 _ _ ?_
    refine wp_cond_false ((fr_eval rfl).trans k10_18) ?_
    refine wp_skip ?_
    refine ibn ?_
    refine hK5 _ _ ?_
    refine ry 3 [(9, 0), (10, 1), (3, 2)] [[], [0], [0, 1]] (rel [iI ((u0 : Int)), iI ((u0 : Int) - 1), iI ((u0 : Int) - 1)])
     ⟨fun f s W j m p q r a => opv rfl rfl (by simp [go_sem, a.e 3 ((q 2 3 rfl rfl).trans k10_3)]) rfl,
  fun f s W j m p q r a => opv rfl rfl (by simp [go_sem, a.e 9 (m 0 rfl), IntWalk.i64_in ((u0 : Int) - 1) (by omega)]) rfl,
  fun f s W j m p q r a => opv rfl rfl (by simp [go_sem, a.e 10 (m 1 rfl)]) rfl, trivial⟩ ?_
    intro f11 s11 W11 hB11 g11 hg11 z11
    have fB11 := hB11.f fB9
    have b11_0 := hB11.b by9_bw
    have q5' := (StabG.below hJs jj9 hB11.below)
    refine wpe ?_
    have k11_0 := kt hg11 0 k10_0
    have k11_1 := kt hg11 1 k10_1
    have k11_3 := kt hg11 3 (hB11.is 2)
    refine then_normal ?_
    exact ⟨_, by omega, g11, rfl, k + 1, u0, G9, rfl, k11_0, k11_1, k11_3.trans (by rfl), fB11, (by omega), b11_0, q5', (by omega)⟩
   ·
    obtain rfl := Ending.returned.inj rv9
    generalize hg9 : upd g8 17 (.bool false) = g9
    have k9_0 := ku hg9 0 k8_0
    have k9_1 := ku hg9 1 k8_1
    have k9_3 := ku hg9 3 k8_3
    have k9_17 := kt hg9 17 (upd_same _ _ _)
    refine inP_value (o := _) rfl rfl rfl (v := .bool true) (by simp [go_sem, frv 19 k9_17]) ?_
    generalize hg12 : upd g9 18 (.bool true) = g12
    have k12_18 := kt hg12 18 (upd_same _ _ _)
    refine hK6 _ _ ?_
    refine wp_cond_true ((fr_eval rfl).trans k12_18) ?_
    refine wp_ret ?_
    refine inBlock_ret (then_ret (then_ret (inBlock_ret ?_)))
    exact leave_marks (v := .tuple #[]) (Ds := []) (.inr rfl) rfl rfl ⟨.nil, fun _ h => nomatch h⟩ (fun W' => by simp [results, Try.results125, go_sem]) fun W' hk => ⟨⟨_, rfl⟩, .inr ⟨_, hSs _ _ _ jj9 (hk.more fun b hb => (nomatch hb))⟩⟩
 ·
  have hc4' := hc4; try simp only [ba] at hc4'
  have hkn : k = n := by omega
  refine wp_exit ?_
  refine then_exit ?_
  refine then_exit ?_
  refine inBlock_at ?_
  refine leave_marks (v := .tuple #[]) (Ds := []) (.inl rfl) rfl rfl ⟨.nil, fun _ h => nomatch h⟩ (fun W' => by simp [results, Try.results125, go_sem]) fun W' hk => ⟨⟨_, rfl⟩, .inl ?_⟩
  have hJe := hJs _ _ _ _ q4' (hk.more fun b hb => (nomatch hb))
  rw [hkn] at hJe
  exact ⟨_, _, rfl, hJe⟩
end Go.Proofs.Ytcgccflcjejlhaa
