/- Part of the proof: what the claim leans on. -/
import Derived.Test.YtolnpbpeifpbjaaQAN
import Derived.Test.YtolnpbpeifpbjaaQAH
import Derived.Test.YtolnpbpeifpbjaaQAG
import Derived.Test.YtolnpbpeifpbjaaQAA
set_option linter.unusedSimpArgs false
set_option linter.unusedVariables false
namespace Go.Proofs.Ytolnpbpeifpbjaa
open Go.RowKit
/-- The greatest number that money pays, stretch by stretch. -/
def MostAt (q : Qu) (mo an : Int) : Prop :=
  ((q.sf ≤ an ∧ an ≤ 100000) ∧ ∀ x, q.sf ≤ x → x ≤ 100000 → (priceQ q x ≤ mo ↔ x ≤ an)) ∨
  (1 < q.sf ∧ mo < priceQ q q.sf ∧ (1 ≤ an ∧ an ≤ q.sf - 1) ∧ ∀ x, 1 ≤ x → x ≤ q.sf - 1 → (priceQ q x ≤ mo ↔ x ≤ an))
theorem most_at (q : Qu) (bs os cs : Nat) (mo an : Int) (w : World) (hR : StepR w bs os q) (hq : QuIn q) (h : MostAt q mo an) :
    Calls Try.prog 30 #[.agg #[.int .i64 q.ar, .int .i64 q.bo, .int .i64 q.wa, .int .i64 q.tl, .int .i64 q.se, .int .i64 q.ru, .int .i64 q.wo, .int .i64 q.pl, .int .i64 q.fr, .int .i64 q.ma, .slice (some ⟨bs, os, none⟩) (1) (cs)], .int .i64 mo] w (fun e w' => e = .returned (.int .i64 an) ∧ Below w.heap.size w w') := by
  rcases h with ⟨h1, h2⟩ | ⟨h1, h2, h3, h4⟩
  · exact most_A q bs os cs mo an w hR hq h1 h2
  · exact most_C q bs os cs mo an w hR hq h1 h2 h3 h4
set_option maxRecDepth 100000 in
set_option maxHeartbeats 8000000 in
theorem Budget_ok (q : Qu) (bs os cs : Nat) (mo an : Int) (w : World) (hR : StepR w bs os q) (hq : QuIn q) (gmo : 0 ≤ mo ∧ mo ≤ 600000000001) (gan : 1 ≤ an ∧ an ≤ 100000) (hm : MostAt q mo an) :
  Calls Try.prog 11 #[.agg #[.int .i64 q.ar, .int .i64 q.bo, .int .i64 q.wa, .int .i64 q.tl, .int .i64 q.se, .int .i64 q.ru, .int .i64 q.wo, .int .i64 q.pl, .int .i64 q.fr, .int .i64 q.ma, .slice (some ⟨bs, os, none⟩) (1) (cs)], .int .i64 mo] w (fun e w' => e = .returned (.tuple #[.int .i64 an, .int .i64 0]) ∧ Below w.heap.size w w') := by
 refine calls_fr Try.func11 Try.ntmps11 rfl rfl fun g hg => ?_
 have k0 : g 0 = .agg #[.int .i64 q.ar, .int .i64 q.bo, .int .i64 q.wa, .int .i64 q.tl, .int .i64 q.se, .int .i64 q.ru, .int .i64 q.wo, .int .i64 q.pl, .int .i64 q.fr, .int .i64 q.ma, .slice (some ⟨bs, os, none⟩) (1) (cs)] := hg 0
 have k1 : g 1 = .int .i64 mo := hg 1
 clear hg
 have fB0 : Below w.heap.size w w := Below.refl _ _
 refine wp_seq_k fun K1 hK1 => ?_
 refine region_dk 3 [(2, 0), (4, 1), (5, 2)] [[], [], [1]] (rel [bx 0 #[.int .i64 q.ar, .int .i64 q.bo, .int .i64 q.wa, .int .i64 q.tl, .int .i64 q.se, .int .i64 q.ru, .int .i64 q.wo, .int .i64 q.pl, .int .i64 q.fr, .int .i64 q.ma, .slice (some ⟨bs, os, none⟩) (1) (cs)] 32,
   is (.int .i64 0),
   is (.int .i64 0)])
  ⟨bx_k, is_k, is_k, trivial⟩
  ⟨fun f s W hW c d i j a => opb rfl rfl (by simp [go_sem, a.e 0 k0]),
  fun f s W hW c d i j a => opv rfl rfl (by simp [go_sem]) rfl,
  fun f s W hW c d i j a => opv rfl rfl (by simp [go_sem]) rfl, trivial⟩ ?_
 intro f1 s1 W1 hB1 g1 hg1
 have fB1 := hB1.f fB0
 have z1 := hB1.below.size
 obtain ⟨r1_0, br1_0⟩ := hB1.is 0
 have lr1_0 := hB1.lr 0 br1_0
 refine hK1 _ _ ?_
 have k1_1 := kt hg1 1 k1
 have k1_2 := kt hg1 2 r1_0
 have k1_4 := kt hg1 4 (hB1.is 1)
 have k1_5 := kt hg1 5 (hB1.is 2)
 refine wp_seq_k fun K2 hK2 => ?_
 refine region_doS (W1.heap.size) (fun t => [86].contains t) [(6, 5)] 7 [(10, 0), (11, 1), (9, 2), (12, 3), (13, 4), (6, 5), (7, 7)] [[], [0], [0, 1], [0, 1, 2], [0, 1, 2], [], [0, 1, 2, 3, 5], [0, 1, 2, 3, 4, 5, 6]] (rel [is (.agg #[.int .i64 q.ar, .int .i64 q.bo, .int .i64 q.wa, .int .i64 q.tl, .int .i64 q.se, .int .i64 q.ru, .int .i64 q.wo, .int .i64 q.pl, .int .i64 q.fr, .int .i64 q.ma, .slice (some ⟨bs, os, none⟩) (1) (cs)]),
   is (.tuple #[.agg #[.int .i64 q.ar, .int .i64 q.bo, .int .i64 q.wa, .int .i64 q.tl, .int .i64 q.se, .int .i64 q.ru, .int .i64 q.wo, .int .i64 q.pl, .int .i64 q.fr, .int .i64 q.ma, .slice (some ⟨bs, os, none⟩) (1) (cs)], .int .i64 0]),
   is (.tuple #[.agg #[.int .i64 q.ar, .int .i64 q.bo, .int .i64 q.wa, .int .i64 q.tl, .int .i64 q.se, .int .i64 q.ru, .int .i64 q.wo, .int .i64 q.pl, .int .i64 q.fr, .int .i64 q.ma, .slice (some ⟨bs, os, none⟩) (1) (cs)], .int .i64 0]),
   is (.agg #[.int .i64 q.ar, .int .i64 q.bo, .int .i64 q.wa, .int .i64 q.tl, .int .i64 q.se, .int .i64 q.ru, .int .i64 q.wo, .int .i64 q.pl, .int .i64 q.fr, .int .i64 q.ma, .slice (some ⟨bs, os, none⟩) (1) (cs)]),
   is (.int .i64 0),
   boxK (W1.heap.size) 86 11 5,
   stoS 86 5 #[.int .i64 q.ar, .int .i64 q.bo, .int .i64 q.wa, .int .i64 q.tl, .int .i64 q.se, .int .i64 q.ru, .int .i64 q.wo, .int .i64 q.pl, .int .i64 q.fr, .int .i64 q.ma, .slice (some ⟨bs, os, none⟩) (1) (cs)]]) (by kernel_rfl) (by kernel_rfl) (by kernel_rfl) (by kernel_rfl) (by decide) ⟨fun _ _ _ h => boxK_lt h, trivial⟩
  ⟨ks_l (is_kl), ks_l (is_kl), ks_l (is_kl), ks_l (is_kl), ks_l (is_kl), ks_l (boxK_k rfl), ks_s rfl (by decide), trivial⟩
  ⟨fun f s W hT c d i j a => by have hW := LeK.below hT (Nat.le_refl _); exact OpDo.s (opl rfl rfl rfl (a.v 2 k1_2) (blk_below br1_0 hW) Try.underlying32 rfl (by kernel_rfl) rfl),
  fun f s W hT c d i j a => by have hW := LeK.below hT (Nat.le_refl _); exact OpDo.s (by have k := below_trans fB1 hW; exact opc rfl rfl (by simp [go_sem, a.e 10 (c 0 rfl)]) (open_ok q bs os cs W (hR.below k) hq)),
  fun f s W hT c d i j a => by have hW := LeK.below hT (Nat.le_refl _); exact OpDo.s (opv rfl rfl (by simp [go_sem, a.e 11 (c 1 rfl)]) rfl),
  fun f s W hT c d i j a => by have hW := LeK.below hT (Nat.le_refl _); exact OpDo.s (opv rfl rfl (by simp [go_sem, a.e 9 (c 2 rfl)]) rfl),
  fun f s W hT c d i j a => by have hW := LeK.below hT (Nat.le_refl _); exact OpDo.s (opv rfl rfl (by simp [go_sem, a.e 9 (c 2 rfl)]) rfl),
  fun f s W hT c d i j a => opS (cs := #[.int .i64 0, .int .i64 0, .int .i64 0, .int .i64 0, .int .i64 0, .int .i64 0, .int .i64 0, .int .i64 0, .int .i64 0, .int .i64 0, .slice (none) (0) (0)]) (hT.size) rfl rfl (by simp [go_sem]) rfl,
  fun f s W hT c d i j a => stoS_do (#[.int .i64 q.ar, .int .i64 q.bo, .int .i64 q.wa, .int .i64 q.tl, .int .i64 q.se, .int .i64 q.ru, .int .i64 q.wo, .int .i64 q.pl, .int .i64 q.fr, .int .i64 q.ma, .slice (some ⟨bs, os, none⟩) (1) (cs)]) rfl rfl rfl (by decide) (c 5 rfl) (a.v 6 (c 5 rfl).1) (a.v 12 (c 3 rfl)) rfl rfl (by rfl) (by rfl), trivial⟩ ?_
 intro f2 s2 W2 hB2
 have hb2 := LeK.below hB2.le (Nat.le_refl _)
 have fB2 := below_trans fB1 hb2
 have z2 : W1.heap.size ≤ W2.heap.size := hb2.size
 have b2_0 := blk_below br1_0 hb2
 obtain ⟨r2_5, lb2_5, -⟩ := hB2.is 5
 have bs2_5 : W2.heap[s2 5]? = some (.cells #[.int .i64 q.ar, .int .i64 q.bo, .int .i64 q.wa, .int .i64 q.tl, .int .i64 q.se, .int .i64 q.ru, .int .i64 q.wo, .int .i64 q.pl, .int .i64 q.fr, .int .i64 q.ma, .slice (some ⟨bs, os, none⟩) (1) (cs)] 86 (0, 0)) := hB2.is 6
 have lr2_5 : W1.heap.size ≤ s2 5 ∧ s2 5 < W2.heap.size := ⟨lb2_5, lt_of_blk bs2_5⟩
 generalize hg2 : ov [(10, 0), (11, 1), (9, 2), (12, 3), (13, 4), (6, 5), (7, 7)] f2 g1 = g2
 have k2_1 := kt hg2 1 k1_1
 have k2_4 := kt hg2 4 k1_4
 have k2_5 := kt hg2 5 k1_5
 have k2_6 := kt hg2 6 r2_5
 have k2_13 := kt hg2 13 (hB2.is 4)
 refine tail_value (o := _) rfl rfl rfl (v := .int .i64 0) (by simp [go_sem, frv 27 k2_13]) ?_
 generalize hg3 : upd g2 7 (.int .i64 0) = g3
 have k3_1 := ku hg3 1 k2_1
 have k3_4 := ku hg3 4 k2_4
 have k3_5 := ku hg3 5 k2_5
 have k3_6 := ku hg3 6 k2_6
 have k3_7 := kt hg3 7 (upd_same _ _ _)
 refine wpOps_end ?_
 refine hK2 _ _ ?_
 refine wp_seq_k fun K3 hK3 => ?_
 refine wp_block ?_
 refine wp_seq_k fun K4 hK4 => ?_
 refine region_dk 3 [(15, 0), (16, 1), (14, 2)] [[], [0], [0, 1]] (rel [is (.int .i64 0),
   is (.bool false),
   is (.bool false)])
  ⟨is_k, is_k, is_k, trivial⟩
  ⟨fun f s W hW c d i j a => opv rfl rfl (by simp [go_sem, a.e 7 k3_7]) rfl,
  fun f s W hW c d i j a => opv rfl rfl (by simp [go_sem, a.e 15 (c 0 rfl)]) rfl,
  fun f s W hW c d i j a => opv rfl rfl (by simp [go_sem, a.e 16 (c 1 rfl)]) rfl, trivial⟩ ?_
 intro f4 s4 W4 hB4 g4 hg4
 have fB4 := hB4.f fB2
 have z4 := hB4.below.size
 have b4_0 := hB4.b b2_0
 have b4_1 := hB4.b bs2_5
 refine hK4 _ _ ?_
 have k4_1 := kt hg4 1 k3_1
 have k4_4 := kt hg4 4 k3_4
 have k4_5 := kt hg4 5 k3_5
 have k4_6 := kt hg4 6 k3_6
 have k4_7 := kt hg4 7 k3_7
 have k4_14 := kt hg4 14 (hB4.is 2)
 refine wp_cond_false ((fr_eval rfl).trans k4_14) ?_
 refine wp_seq_k fun K6 hK6 => ?_
 refine region_dk 3 [(19, 0), (20, 1), (18, 2)] [[], [0], [0, 1]] (rel [is (.int .i64 mo),
   is (.bool (decide (mo < 0))),
   is (.bool (decide (mo < 0)))])
  ⟨is_k, is_k, is_k, trivial⟩
  ⟨fun f s W hW c d i j a => opv rfl rfl (by simp [go_sem, a.e 1 k4_1]) rfl,
  fun f s W hW c d i j a => opv rfl rfl (by simp [go_sem, a.e 19 (c 0 rfl)]) rfl,
  fun f s W hW c d i j a => opv rfl rfl (by simp [go_sem, a.e 20 (c 1 rfl)]) rfl, trivial⟩ ?_
 intro f5 s5 W5 hB5 g5 hg5
 have fB5 := hB5.f fB4
 have z5 := hB5.below.size
 have b5_0 := hB5.b b4_0
 have b5_1 := hB5.b b4_1
 refine hK6 _ _ ?_
 have k5_1 := kt hg5 1 k4_1
 have k5_4 := kt hg5 4 k4_4
 have k5_5 := kt hg5 5 k4_5
 have k5_6 := kt hg5 6 k4_6
 have k5_18 := kt hg5 18 (hB5.is 2)
 refine wp_cond_split (t := decide (mo < 0)) ((fr_eval rfl).trans k5_18) (fun hc7 => ?_) (fun hc7 => ?_)
 ·
  have hc7' := hc7; try simp only [ba] at hc7'
  refine wp_seq_k fun K8 hK8 => ?_
  refine region_dk 2 [(4, 0), (5, 1)] [[], [0]] (rel [is (.int .i64 0),
   is (.int .i64 9)])
   ⟨is_k, is_k, trivial⟩
   ⟨fun f s W hW c d i j a => opv rfl rfl (by simp [go_sem]) rfl,
  fun f s W hW c d i j a => opv rfl rfl (by simp [go_sem]) rfl, trivial⟩ ?_
  intro f6 s6 W6 hB6 g6 hg6
  have fB6 := hB6.f fB5
  have z6 := hB6.below.size
  have b6_0 := hB6.b b5_0
  have b6_1 := hB6.b b5_1
  refine hK8 _ _ ?_
  have k6_1 := kt hg6 1 k5_1
  have k6_6 := kt hg6 6 k5_6
  have k6_4 := kt hg6 4 (hB6.is 0)
  have k6_5 := kt hg6 5 (hB6.is 1)
  refine wp_ret ?_
  refine inBlock_ret (then_ret ?_)
  refine leave_gen (v := .tuple #[.int .i64 0, .int .i64 9]) (.inr rfl) (by simp [results, Try.results11, go_sem, frv 27 k6_4, frv 27 k6_5]) ?_
  exfalso; omega
 ·
  have hc7' := hc7; try simp only [ba] at hc7'
  refine wp_skip ?_
  refine inBlock_normal ?_
  refine hK3 _ _ ?_
  refine wp_seq_k fun K9 hK9 => ?_
  refine region_dk 4 [(21, 0), (22, 1), (23, 2), (8, 3)] [[], [], [0, 1], [0, 1, 2]] (rel [is (.agg #[.int .i64 q.ar, .int .i64 q.bo, .int .i64 q.wa, .int .i64 q.tl, .int .i64 q.se, .int .i64 q.ru, .int .i64 q.wo, .int .i64 q.pl, .int .i64 q.fr, .int .i64 q.ma, .slice (some ⟨bs, os, none⟩) (1) (cs)]),
   is (.int .i64 mo),
   is (.int .i64 an),
   is (.int .i64 an)])
   ⟨is_k, is_k, is_k, is_k, trivial⟩
   ⟨fun f s W hW c d i j a => opl rfl rfl rfl (a.v 6 k5_6) (blk_below b5_1 hW) Try.underlying86 rfl (by kernel_rfl) rfl,
  fun f s W hW c d i j a => opv rfl rfl (by simp [go_sem, a.e 1 k5_1]) rfl,
  fun f s W hW c d i j a => by have k := below_trans fB5 hW; exact opc rfl rfl (by simp [go_sem, a.e 21 (c 0 rfl), a.e 22 (c 1 rfl)]) (most_at q bs os cs mo an W (hR.below k) hq hm),
  fun f s W hW c d i j a => opv rfl rfl (by simp [go_sem, a.e 23 (c 2 rfl)]) rfl, trivial⟩ ?_
  intro f7 s7 W7 hB7 g7 hg7
  have fB7 := hB7.f fB5
  have z7 := hB7.below.size
  have b7_0 := hB7.b b5_0
  have b7_1 := hB7.b b5_1
  refine hK9 _ _ ?_
  have k7_4 := kt hg7 4 k5_4
  have k7_5 := kt hg7 5 k5_5
  have k7_8 := kt hg7 8 (hB7.is 3)
  refine wp_seq_k fun K10 hK10 => ?_
  refine wp_seq_k fun K11 hK11 => ?_
  refine region_dk 2 [(24, 0), (25, 1)] [[], [0]] (rel [is (.int .i64 an),
   is (.bool (an == 0))])
   ⟨is_k, is_k, trivial⟩
   ⟨fun f s W hW c d i j a => opv rfl rfl (by simp [go_sem, a.e 8 k7_8]) rfl,
  fun f s W hW c d i j a => opv rfl rfl (by simp [go_sem, a.e 24 (c 0 rfl)]) rfl, trivial⟩ ?_
  intro f8 s8 W8 hB8 g8 hg8
  have fB8 := hB8.f fB7
  have z8 := hB8.below.size
  have b8_0 := hB8.b b7_0
  have b8_1 := hB8.b b7_1
  refine hK11 _ _ ?_
  have k8_4 := kt hg8 4 k7_4
  have k8_5 := kt hg8 5 k7_5
  have k8_8 := kt hg8 8 k7_8
  have k8_25 := kt hg8 25 (hB8.is 1)
  refine wp_cond_split (t := an == 0) ((fr_eval rfl).trans k8_25) (fun hc12 => ?_) (fun hc12 => ?_)
  ·
   have hc12' := hc12; try simp only [ba] at hc12'
   refine wp_seq_k fun K13 hK13 => ?_
   refine region_dk 2 [(4, 0), (5, 1)] [[], [0]] (rel [is (.int .i64 0),
   is (.int .i64 7)])
    ⟨is_k, is_k, trivial⟩
    ⟨fun f s W hW c d i j a => opv rfl rfl (by simp [go_sem]) rfl,
  fun f s W hW c d i j a => opv rfl rfl (by simp [go_sem]) rfl, trivial⟩ ?_
   intro f9 s9 W9 hB9 g9 hg9
   have fB9 := hB9.f fB8
   have z9 := hB9.below.size
   have b9_0 := hB9.b b8_0
   have b9_1 := hB9.b b8_1
   refine hK13 _ _ ?_
   have k9_8 := kt hg9 8 k8_8
   have k9_4 := kt hg9 4 (hB9.is 0)
   have k9_5 := kt hg9 5 (hB9.is 1)
   refine wp_ret ?_
   refine then_ret ?_
   refine leave_gen (v := .tuple #[.int .i64 0, .int .i64 7]) (.inr rfl) (by simp [results, Try.results11, go_sem, frv 27 k9_4, frv 27 k9_5]) ?_
   exfalso; omega
  ·
   have hc12' := hc12; try simp only [ba] at hc12'
   refine wp_skip ?_
   refine hK10 _ _ ?_
   refine wp_seq_k fun K14 hK14 => ?_
   refine region_dk 3 [(26, 0), (4, 1), (5, 2)] [[], [0], [0, 1]] (rel [is (.int .i64 an),
   is (.int .i64 an),
   is (.int .i64 0)])
    ⟨is_k, is_k, is_k, trivial⟩
    ⟨fun f s W hW c d i j a => opv rfl rfl (by simp [go_sem, a.e 8 k8_8]) rfl,
  fun f s W hW c d i j a => opv rfl rfl (by simp [go_sem, a.e 26 (c 0 rfl)]) rfl,
  fun f s W hW c d i j a => opv rfl rfl (by simp [go_sem]) rfl, trivial⟩ ?_
   intro f10 s10 W10 hB10 g10 hg10
   have fB10 := hB10.f fB8
   have z10 := hB10.below.size
   have b10_0 := hB10.b b8_0
   have b10_1 := hB10.b b8_1
   refine hK14 _ _ ?_
   have k10_4 := kt hg10 4 (hB10.is 1)
   have k10_5 := kt hg10 5 (hB10.is 2)
   refine wp_ret ?_
   refine leave_gen (v := .tuple #[.int .i64 an, .int .i64 0]) (.inr rfl) (by simp [results, Try.results11, go_sem, frv 27 k10_4, frv 27 k10_5]) ?_
   exact ⟨rfl, fB10⟩
set_option maxRecDepth 100000 in
set_option maxHeartbeats 8000000 in
theorem More_ok (q : Qu) (bs os cs : Nat) (n mo an : Int) (w : World) (hR : StepR w bs os q) (hq : QuIn q) (gn : 1 ≤ n ∧ n ≤ 100000) (hmo : priceQ q n = mo) (gan : 1 ≤ an ∧ an ≤ 100000) (hm : MostAt q mo an) :
  Calls Try.prog 32 #[.agg #[.int .i64 q.ar, .int .i64 q.bo, .int .i64 q.wa, .int .i64 q.tl, .int .i64 q.se, .int .i64 q.ru, .int .i64 q.wo, .int .i64 q.pl, .int .i64 q.fr, .int .i64 q.ma, .slice (some ⟨bs, os, none⟩) (1) (cs)], .int .i64 n] w (fun e w' => e = .returned (.tuple #[.int .i64 an, .int .i64 0]) ∧ Below w.heap.size w w') := by
 refine calls_fr Try.func32 Try.ntmps32 rfl rfl fun g hg => ?_
 have k0 : g 0 = .agg #[.int .i64 q.ar, .int .i64 q.bo, .int .i64 q.wa, .int .i64 q.tl, .int .i64 q.se, .int .i64 q.ru, .int .i64 q.wo, .int .i64 q.pl, .int .i64 q.fr, .int .i64 q.ma, .slice (some ⟨bs, os, none⟩) (1) (cs)] := hg 0
 have k1 : g 1 = .int .i64 n := hg 1
 clear hg
 have fB0 : Below w.heap.size w w := Below.refl _ _
 refine wp_seq_k fun K1 hK1 => ?_
 refine region_dk 3 [(2, 0), (4, 1), (5, 2)] [[], [], [1]] (rel [bx 0 #[.int .i64 q.ar, .int .i64 q.bo, .int .i64 q.wa, .int .i64 q.tl, .int .i64 q.se, .int .i64 q.ru, .int .i64 q.wo, .int .i64 q.pl, .int .i64 q.fr, .int .i64 q.ma, .slice (some ⟨bs, os, none⟩) (1) (cs)] 32,
   is (.int .i64 0),
   is (.int .i64 0)])
  ⟨bx_k, is_k, is_k, trivial⟩
  ⟨fun f s W hW c d i j a => opb rfl rfl (by simp [go_sem, a.e 0 k0]),
  fun f s W hW c d i j a => opv rfl rfl (by simp [go_sem]) rfl,
  fun f s W hW c d i j a => opv rfl rfl (by simp [go_sem]) rfl, trivial⟩ ?_
 intro f1 s1 W1 hB1 g1 hg1
 have fB1 := hB1.f fB0
 have z1 := hB1.below.size
 obtain ⟨r1_0, br1_0⟩ := hB1.is 0
 have lr1_0 := hB1.lr 0 br1_0
 refine hK1 _ _ ?_
 have k1_1 := kt hg1 1 k1
 have k1_2 := kt hg1 2 r1_0
 have k1_4 := kt hg1 4 (hB1.is 1)
 have k1_5 := kt hg1 5 (hB1.is 2)
 refine wp_seq_k fun K2 hK2 => ?_
 refine region_doS (W1.heap.size) (fun t => [86].contains t) [(7, 6)] 8 [(9, 0), (10, 1), (11, 2), (8, 3), (12, 4), (13, 5), (6, 6), (7, 8)] [[], [], [0, 1], [0, 1, 2], [0, 1, 2, 3], [0, 1, 2, 3], [], [0, 1, 2, 3, 4, 6], [0, 1, 2, 3, 4, 5, 6, 7]] (rel [is (.agg #[.int .i64 q.ar, .int .i64 q.bo, .int .i64 q.wa, .int .i64 q.tl, .int .i64 q.se, .int .i64 q.ru, .int .i64 q.wo, .int .i64 q.pl, .int .i64 q.fr, .int .i64 q.ma, .slice (some ⟨bs, os, none⟩) (1) (cs)]),
   is (.int .i64 n),
   is (.tuple #[.agg #[.int .i64 q.ar, .int .i64 q.bo, .int .i64 q.wa, .int .i64 q.tl, .int .i64 q.se, .int .i64 q.ru, .int .i64 q.wo, .int .i64 q.pl, .int .i64 q.fr, .int .i64 q.ma, .slice (some ⟨bs, os, none⟩) (1) (cs)], .int .i64 0]),
   is (.tuple #[.agg #[.int .i64 q.ar, .int .i64 q.bo, .int .i64 q.wa, .int .i64 q.tl, .int .i64 q.se, .int .i64 q.ru, .int .i64 q.wo, .int .i64 q.pl, .int .i64 q.fr, .int .i64 q.ma, .slice (some ⟨bs, os, none⟩) (1) (cs)], .int .i64 0]),
   is (.agg #[.int .i64 q.ar, .int .i64 q.bo, .int .i64 q.wa, .int .i64 q.tl, .int .i64 q.se, .int .i64 q.ru, .int .i64 q.wo, .int .i64 q.pl, .int .i64 q.fr, .int .i64 q.ma, .slice (some ⟨bs, os, none⟩) (1) (cs)]),
   is (.int .i64 0),
   boxK (W1.heap.size) 86 11 6,
   stoS 86 6 #[.int .i64 q.ar, .int .i64 q.bo, .int .i64 q.wa, .int .i64 q.tl, .int .i64 q.se, .int .i64 q.ru, .int .i64 q.wo, .int .i64 q.pl, .int .i64 q.fr, .int .i64 q.ma, .slice (some ⟨bs, os, none⟩) (1) (cs)]]) (by kernel_rfl) (by kernel_rfl) (by kernel_rfl) (by kernel_rfl) (by decide) ⟨fun _ _ _ h => boxK_lt h, trivial⟩
  ⟨ks_l (is_kl), ks_l (is_kl), ks_l (is_kl), ks_l (is_kl), ks_l (is_kl), ks_l (is_kl), ks_l (boxK_k rfl), ks_s rfl (by decide), trivial⟩
  ⟨fun f s W hT c d i j a => by have hW := LeK.below hT (Nat.le_refl _); exact OpDo.s (opl rfl rfl rfl (a.v 2 k1_2) (blk_below br1_0 hW) Try.underlying32 rfl (by kernel_rfl) rfl),
  fun f s W hT c d i j a => by have hW := LeK.below hT (Nat.le_refl _); exact OpDo.s (opv rfl rfl (by simp [go_sem, a.e 1 k1_1]) rfl),
  fun f s W hT c d i j a => by have hW := LeK.below hT (Nat.le_refl _); exact OpDo.s (by have k := below_trans fB1 hW; exact opc rfl rfl (by simp [go_sem, a.e 9 (c 0 rfl), a.e 10 (c 1 rfl)]) (openCount_ok q bs os cs n W (hR.below k) hq gn)),
  fun f s W hT c d i j a => by have hW := LeK.below hT (Nat.le_refl _); exact OpDo.s (opv rfl rfl (by simp [go_sem, a.e 11 (c 2 rfl)]) rfl),
  fun f s W hT c d i j a => by have hW := LeK.below hT (Nat.le_refl _); exact OpDo.s (opv rfl rfl (by simp [go_sem, a.e 8 (c 3 rfl)]) rfl),
  fun f s W hT c d i j a => by have hW := LeK.below hT (Nat.le_refl _); exact OpDo.s (opv rfl rfl (by simp [go_sem, a.e 8 (c 3 rfl)]) rfl),
  fun f s W hT c d i j a => opS (cs := #[.int .i64 0, .int .i64 0, .int .i64 0, .int .i64 0, .int .i64 0, .int .i64 0, .int .i64 0, .int .i64 0, .int .i64 0, .int .i64 0, .slice (none) (0) (0)]) (hT.size) rfl rfl (by simp [go_sem]) rfl,
  fun f s W hT c d i j a => stoS_do (#[.int .i64 q.ar, .int .i64 q.bo, .int .i64 q.wa, .int .i64 q.tl, .int .i64 q.se, .int .i64 q.ru, .int .i64 q.wo, .int .i64 q.pl, .int .i64 q.fr, .int .i64 q.ma, .slice (some ⟨bs, os, none⟩) (1) (cs)]) rfl rfl rfl (by decide) (c 6 rfl) (a.v 6 (c 6 rfl).1) (a.v 12 (c 4 rfl)) rfl rfl (by rfl) (by rfl), trivial⟩ ?_
 intro f2 s2 W2 hB2
 have hb2 := LeK.below hB2.le (Nat.le_refl _)
 have fB2 := below_trans fB1 hb2
 have z2 : W1.heap.size ≤ W2.heap.size := hb2.size
 have b2_0 := blk_below br1_0 hb2
 obtain ⟨r2_6, lb2_6, -⟩ := hB2.is 6
 have bs2_6 : W2.heap[s2 6]? = some (.cells #[.int .i64 q.ar, .int .i64 q.bo, .int .i64 q.wa, .int .i64 q.tl, .int .i64 q.se, .int .i64 q.ru, .int .i64 q.wo, .int .i64 q.pl, .int .i64 q.fr, .int .i64 q.ma, .slice (some ⟨bs, os, none⟩) (1) (cs)] 86 (0, 0)) := hB2.is 7
 have lr2_6 : W1.heap.size ≤ s2 6 ∧ s2 6 < W2.heap.size := ⟨lb2_6, lt_of_blk bs2_6⟩
 generalize hg2 : ov [(9, 0), (10, 1), (11, 2), (8, 3), (12, 4), (13, 5), (6, 6), (7, 8)] f2 g1 = g2
 have k2_1 := kt hg2 1 k1_1
 have k2_4 := kt hg2 4 k1_4
 have k2_5 := kt hg2 5 k1_5
 have k2_6 := kt hg2 6 r2_6
 have k2_13 := kt hg2 13 (hB2.is 5)
 refine tail_value (o := _) rfl rfl rfl (v := .int .i64 0) (by simp [go_sem, frv 22 k2_13]) ?_
 generalize hg3 : upd g2 7 (.int .i64 0) = g3
 have k3_1 := ku hg3 1 k2_1
 have k3_4 := ku hg3 4 k2_4
 have k3_5 := ku hg3 5 k2_5
 have k3_6 := ku hg3 6 k2_6
 have k3_7 := kt hg3 7 (upd_same _ _ _)
 refine wpOps_end ?_
 refine hK2 _ _ ?_
 refine wp_seq_k fun K3 hK3 => ?_
 refine wp_seq_k fun K4 hK4 => ?_
 refine region_dk 2 [(14, 0), (15, 1)] [[], [0]] (rel [is (.int .i64 0),
   is (.bool false)])
  ⟨is_k, is_k, trivial⟩
  ⟨fun f s W hW c d i j a => opv rfl rfl (by simp [go_sem, a.e 7 k3_7]) rfl,
  fun f s W hW c d i j a => opv rfl rfl (by simp [go_sem, a.e 14 (c 0 rfl)]) rfl, trivial⟩ ?_
 intro f4 s4 W4 hB4 g4 hg4
 have fB4 := hB4.f fB2
 have z4 := hB4.below.size
 have b4_0 := hB4.b b2_0
 have b4_1 := hB4.b bs2_6
 refine hK4 _ _ ?_
 have k4_1 := kt hg4 1 k3_1
 have k4_4 := kt hg4 4 k3_4
 have k4_5 := kt hg4 5 k3_5
 have k4_6 := kt hg4 6 k3_6
 have k4_7 := kt hg4 7 k3_7
 have k4_15 := kt hg4 15 (hB4.is 1)
 refine wp_cond_false ((fr_eval rfl).trans k4_15) ?_
 refine wp_skip ?_
 refine hK3 _ _ ?_
 refine wp_seq_k fun K6 hK6 => ?_
 refine region_dk 7 [(17, 0), (18, 1), (19, 2), (20, 3), (21, 4), (4, 5), (5, 6)] [[], [], [], [1, 2], [0, 1, 2, 3], [0, 1, 2, 3, 4], [0, 1, 2, 3, 4, 5]] (rel [is (.agg #[.int .i64 q.ar, .int .i64 q.bo, .int .i64 q.wa, .int .i64 q.tl, .int .i64 q.se, .int .i64 q.ru, .int .i64 q.wo, .int .i64 q.pl, .int .i64 q.fr, .int .i64 q.ma, .slice (some ⟨bs, os, none⟩) (1) (cs)]),
   is (.agg #[.int .i64 q.ar, .int .i64 q.bo, .int .i64 q.wa, .int .i64 q.tl, .int .i64 q.se, .int .i64 q.ru, .int .i64 q.wo, .int .i64 q.pl, .int .i64 q.fr, .int .i64 q.ma, .slice (some ⟨bs, os, none⟩) (1) (cs)]),
   is (.int .i64 n),
   is (.int .i64 mo),
   is (.int .i64 an),
   is (.int .i64 an),
   is (.int .i64 0)])
  ⟨is_k, is_k, is_k, is_k, is_k, is_k, is_k, trivial⟩
  ⟨fun f s W hW c d i j a => opl rfl rfl rfl (a.v 6 k4_6) (blk_below b4_1 hW) Try.underlying86 rfl (by kernel_rfl) rfl,
  fun f s W hW c d i j a => opl rfl rfl rfl (a.v 6 k4_6) (blk_below b4_1 hW) Try.underlying86 rfl (by kernel_rfl) rfl,
  fun f s W hW c d i j a => opv rfl rfl (by simp [go_sem, a.e 1 k4_1]) rfl,
  fun f s W hW c d i j a => by have k := below_trans fB4 hW; exact opDo_call rfl rfl (by simp [go_sem, a.e 18 (c 1 rfl), a.e 19 (c 2 rfl)]) (price_ok q bs os cs n W (hR.below k) hq gn) ((fun e W' h => by have h1 := h.1; rw [hmo] at h1; exact ⟨_, h1, h.2, rfl⟩)),
  fun f s W hW c d i j a => by have k := below_trans fB4 hW; exact opc rfl rfl (by simp [go_sem, a.e 17 (c 0 rfl), a.e 20 (c 3 rfl)]) (most_at q bs os cs mo an W (hR.below k) hq hm),
  fun f s W hW c d i j a => opv rfl rfl (by simp [go_sem, a.e 21 (c 4 rfl)]) rfl,
  fun f s W hW c d i j a => opv rfl rfl (by simp [go_sem]) rfl, trivial⟩ ?_
 intro f5 s5 W5 hB5 g5 hg5
 have fB5 := hB5.f fB4
 have z5 := hB5.below.size
 have b5_0 := hB5.b b4_0
 have b5_1 := hB5.b b4_1
 refine hK6 _ _ ?_
 have k5_4 := kt hg5 4 (hB5.is 5)
 have k5_5 := kt hg5 5 (hB5.is 6)
 refine wp_ret ?_
 refine leave_gen (v := .tuple #[.int .i64 an, .int .i64 0]) (.inr rfl) (by simp [results, Try.results32, go_sem, frv 22 k5_4, frv 22 k5_5]) ?_
 exact ⟨rfl, fB5⟩
end Go.Proofs.Ytolnpbpeifpbjaa
namespace Go.Proofs.Ytolnpbpeifpbjaa
open Go.RowKit
/-- A row of one's own, in block g. -/
def OwnR (T : TypeId) (z B n : Nat) (cs : List Value) (g c : Nat) (W : World) : Prop := B ≤ g ∧ g < W.heap.size ∧ W.ownsRow B T z (.slice (some ⟨g, 0, none⟩) n c) n cs
theorem OwnR.lim {T : TypeId} {z B n g c : Nat} {cs : List Value} {W : World} (h : OwnR T z B n cs g c W) : B ≤ g ∧ g < W.heap.size := ⟨h.1, h.2.1⟩
theorem OwnR.cell {T : TypeId} {z B n g c : Nat} {cs : List Value} {W : World} (h : OwnR T z B n cs g c W) (j : Nat) {u : Value} (hj : cs[j]? = some u) : W.cell? ⟨g, j, none⟩ = some u := by
  rcases h.2.2.2 with ⟨h4, -⟩ | ⟨g', cap, cur, e, h5, h6, h7, h8, h9, h10⟩
  · cases h4
  · cases e
    have e1 : cs[j]? = (cur.toList.take (n * z))[j]? := by rw [h10]
    rw [hj] at e1
    have hlt : j < n * z := by
      rcases Nat.lt_or_ge j (n * z) with h' | h'
      · exact h'
      · rw [List.getElem?_eq_none (by simp; omega)] at e1; cases e1
    rw [List.getElem?_take_of_lt hlt, Array.getElem?_toList] at e1
    rw [Joins.cell_of_block h6 j, ← e1]
/-- append([]T{}, l...), where l is not empty: the copy is one's own. -/
theorem cloneR_run (sl ty T : TypeId) (z by_ : Nat) (zero : Value) (hu : Try.prog.underlying sl = some (.slice T)) (hi : (Try.prog.info? T).map (fun i => (i.zero, i.size, i.bytes)) = some (some zero, z, by_)) (hzz : decide (0 < z ∧ zero.cells.size = z) = true)
    (W : World) (g b off n c : Nat) (es : List Value) (hel : es.length = n * z) (h0 : 0 < n) (hb : ∀ j u, es[j]? = some u → W.cell? ⟨b, off + j, none⟩ = some u) (hn : n * (by_ + 1) ≤ 1000000000) :
    ∃ v W', (Builtin.append_ #[sl, sl] ty #[.slice (some ⟨g, 0, none⟩) 0 0, .slice (some ⟨b, off, none⟩) n c]).run Try.prog W = .ok v W' ∧ Below W.heap.size W W' ∧ ∃ g' c', v = .slice (some ⟨g', 0, none⟩) n c' ∧ OwnR T z W.heap.size n es g' c' W' := by
  obtain ⟨hz0, hzs⟩ := of_decide_eq_true hzz
  obtain ⟨i0, hi, hz0', hz1, hz2⟩ := info_parts hi
  have hnk : n ≤ n * (by_ + 1) := Nat.le_mul_of_pos_right _ (Nat.succ_pos _)
  have hnb : n * by_ ≤ n * (by_ + 1) := Nat.mul_le_mul_left _ (Nat.le_succ _)
  obtain ⟨v, W', hr, hown, hgr⟩ := run_append_arg_grows (P := Try.prog) W sl ty T i0 zero z by_ hu hi hz0' hz1 hz2 hzs hz0 ⟨g, 0, none⟩ 0 0 [] (by simp) (fun j u hj => by simp at hj) ⟨b, off, none⟩ n c es hel
    (fun j u hj => by rw [add_plain']; exact hb j u hj)
    (by omega) (by unfold maxLen; omega) (by rw [Nat.zero_add]; omega)
  obtain ⟨g2, cap2, rfl⟩ := Joins.ownsRow_form hown (by omega)
  simp only [Nat.zero_add, List.nil_append] at hown hr
  exact ⟨_, W', hr, (Below.refl _ _).grown hgr (Nat.le_refl _) (fun k e => by cases e), g2, cap2, rfl, own_ge hown g2 rfl, own_lt' hown, hown⟩
end Go.Proofs.Ytolnpbpeifpbjaa
namespace Go.Proofs.Ytolnpbpeifpbjaa
open Go.RowKit
/-- The quote that four bytes tell. -/
def quB (a b c d : Int) : Qu := ⟨1 + a, 100 * b, 0, 10 * c, 0, 1 + d, 7 * d, 1 + c, 0, 3 * a, 1 + b, c⟩
/-- A quote's value with its step. -/
def QuV (q : Qu) (v : Value) (W : World) : Prop := ∃ bs os cs, v = .agg #[.int .i64 q.ar, .int .i64 q.bo, .int .i64 q.wa, .int .i64 q.tl, .int .i64 q.se, .int .i64 q.ru, .int .i64 q.wo, .int .i64 q.pl, .int .i64 q.fr, .int .i64 q.ma, .slice (some ⟨bs, os, none⟩) (1) (cs)] ∧ StepR W bs os q
theorem StepR.cells {W : World} {b o : Nat} {q : Qu} (h : StepR W b o q) : ∀ j u, ([.int .i64 q.sf, .int .i64 q.so] : List Value)[j]? = some u → W.cell? ⟨b, o + j, none⟩ = some u := by
  intro j u hj
  match j, hj with
  | 0, hj => cases hj; exact h.2.1
  | 1, hj => cases hj; exact h.2.2
theorem StepR.setRow {W : World} {g o b : Nat} {q : Qu} (h : StepR W g o q) (hb : g ≠ b) (cs : Array Value) : StepR (W.setRow b cs) g o q := by
  refine ⟨by rw [setRow_size]; exact h.1, ?_, ?_⟩
  · have := h.2.1; simp only [World.cell?, setRow_other W b g cs hb] at this ⊢; exact this
  · have := h.2.2; simp only [World.cell?, setRow_other W b g cs hb] at this ⊢; exact this
/-- A row of one step. -/
def StepV (B : Nat) (q : Qu) (v : Value) (W : World) : Prop := ∃ g c, v = .slice (some ⟨g, 0, none⟩) 1 c ∧ B ≤ g ∧ StepR W g 0 q
theorem StepV.below {B : Nat} {q : Qu} {v : Value} {W W' : World} (h : StepV B q v W) (hb : Below W.heap.size W W') : StepV B q v W' := by
  obtain ⟨g, c, e, hB, h⟩ := h; exact ⟨g, c, e, hB, h.below hb⟩
theorem infoStep : (Try.prog.info? 82).map (fun i => (i.zero, i.size, i.bytes)) = some (some (.agg #[.int .i64 0, .int .i64 0]), 2, 16) := by kernel_rfl
theorem cloneStep (ty : TypeId) (B : Nat) (W : World) (g b off c : Nat) (q : Qu) (h : StepR W b off q) (hB : B ≤ W.heap.size) :
    ∃ v W', (Builtin.append_ #[30, 30] ty #[.slice (some ⟨g, 0, none⟩) 0 0, .slice (some ⟨b, off, none⟩) 1 c]).run Try.prog W = .ok v W' ∧ Below W.heap.size W W' ∧ StepV B q v W' := by
  obtain ⟨v, W', hr, hb, g', c', e, ho⟩ := cloneR_run 30 ty 82 2 16 _ (by kernel_rfl) infoStep rfl W g b off 1 c [.int .i64 q.sf, .int .i64 q.so] rfl (by decide) h.cells (by decide)
  refine ⟨v, W', hr, hb, g', c', e, Nat.le_trans hB ho.lim.1, ho.lim.2, ho.cell 0 rfl, ho.cell 1 rfl⟩
set_option maxRecDepth 100000 in
set_option maxHeartbeats 8000000 in
theorem pubSteps_ok (q : Qu) (bs os cs : Nat) (w : World) (hR : StepR w bs os q) :
  Calls Try.prog 9 #[.agg #[.int .i64 q.ar, .int .i64 q.bo, .int .i64 q.wa, .int .i64 q.tl, .int .i64 q.se, .int .i64 q.ru, .int .i64 q.wo, .int .i64 q.pl, .int .i64 q.fr, .int .i64 q.ma, .slice (some ⟨bs, os, none⟩) (1) (cs)]] w (fun e w' => ∃ v, e = .returned v ∧ QuV q v w' ∧ Below w.heap.size w w') := by
 refine calls_fr Try.func9 Try.ntmps9 rfl rfl fun g hg => ?_
 have k0 : g 0 = .agg #[.int .i64 q.ar, .int .i64 q.bo, .int .i64 q.wa, .int .i64 q.tl, .int .i64 q.se, .int .i64 q.ru, .int .i64 q.wo, .int .i64 q.pl, .int .i64 q.fr, .int .i64 q.ma, .slice (some ⟨bs, os, none⟩) (1) (cs)] := hg 0
 clear hg
 have fB0 : Below w.heap.size w w := Below.refl _ _
 refine wp_seq_k fun K1 hK1 => ?_
 refine region_dk 2 [(1, 0), (2, 1)] [[], []] (rel [bx 0 #[.int .i64 q.ar, .int .i64 q.bo, .int .i64 q.wa, .int .i64 q.tl, .int .i64 q.se, .int .i64 q.ru, .int .i64 q.wo, .int .i64 q.pl, .int .i64 q.fr, .int .i64 q.ma, .slice (some ⟨bs, os, none⟩) (1) (cs)] 32,
   bx 1 #[.int .i64 0, .int .i64 0, .int .i64 0, .int .i64 0, .int .i64 0, .int .i64 0, .int .i64 0, .int .i64 0, .int .i64 0, .int .i64 0, .slice (none) (0) (0)] 32])
  ⟨bx_k, bx_k, trivial⟩
  ⟨fun f s W c d i j k a => opb rfl rfl (by simp [go_sem, a.e 0 k0]),
  fun f s W c d i j k a => opb rfl rfl (by simp [go_sem]), trivial⟩ ?_
 intro f1 s1 W1 hB1 g1 hg1
 have fB1 := hB1.f fB0
 have z1 := hB1.below.size
 obtain ⟨r1_0, br1_0⟩ := hB1.is 0
 have lr1_0 := hB1.lr 0 br1_0
 obtain ⟨r1_1, br1_1⟩ := hB1.is 1
 have lr1_1 := hB1.lr 1 br1_1
 have ne1_0_1 := hB1.nb 0 1
 refine hK1 _ _ ?_
 have k1_1 := kt hg1 1 r1_0
 have k1_2 := kt hg1 2 r1_1
 refine wp_seq_k fun K2 hK2 => ?_
 refine region_dk 5 [(3, 0), (4, 1), (5, 2), (6, 3), (7, 4)] [[], [], [1], [0, 1, 2], [0, 1, 2, 3], [0, 1, 2, 3, 4]] (rel [row 0 0 #[] 82,
   is (.pointer (some ⟨(s1 0), 10, none⟩)),
   is (.slice (some ⟨bs, os, none⟩) (1) (cs)),
   ab fun v W => StepV W1.heap.size q v W,
   is (.pointer (some ⟨(s1 0), 10, none⟩))])
  ⟨row_k, is_k, is_k, ab_k fun v W W' hb h => h.below hb, is_k, trivial⟩
  ⟨fun f s W c d i j k a => opr rfl rfl (by simp [go_sem]),
  fun f s W c d i j k a => opv rfl rfl (by simp [go_sem, a.e 1 k1_1]) rfl,
  fun f s W c d i j k a => opv rfl rfl (by simp [go_sem, a.e 4 (d 1 rfl), cb br1_0 c 10]) rfl,
  fun f s W c d i j k a => by have l := below_trans fB1 c; obtain ⟨v_, W_, r_, b_, i_⟩ := cloneStep 30 W1.heap.size W (s 0) bs os cs q (hR.below l) c.size; exact opDo_value rfl rfl (run_appendOp (a.v 3 (d 0 rfl).1) (a.v 5 (d 2 rfl)) r_) b_ i_,
  fun f s W c d i j k a => opv rfl rfl (by simp [go_sem, a.e 1 k1_1]) rfl, trivial⟩ ?_
 intro f2 s2 W2 hB2 g2 hg2
 have fB2 := hB2.f fB1
 have z2 := hB2.below.size
 have b2_0 := hB2.b br1_0
 have b2_1 := hB2.b br1_1
 obtain ⟨r2_0, br2_0⟩ := hB2.is 0
 have lr2_0 := hB2.lr 0 br2_0
 obtain ⟨gs1, cs2, r2_3, q3', q4'⟩ := hB2.is 3
 have k2_1 := kt hg2 1 k1_1
 have k2_2 := kt hg2 2 k1_2
 have k2_6 := kt hg2 6 r2_3
 have k2_7 := kt hg2 7 (hB2.is 4)
 obtain ⟨W3, hW3⟩ : ∃ W', W' = W2.setRow (s1 0) #[.int .i64 q.ar, .int .i64 q.bo, .int .i64 q.wa, .int .i64 q.tl, .int .i64 q.se, .int .i64 q.ru, .int .i64 q.wo, .int .i64 q.pl, .int .i64 q.fr, .int .i64 q.ma, .slice (some ⟨gs1, 0, none⟩) (1) (cs2)] := ⟨_, rfl⟩
 refine tail_skip (o := _) rfl ⟨rfl, rfl⟩ (run_seg hW3 (fr_ev k2_7) (fr_ev k2_6) b2_0 rfl rfl rfl rfl) ?_
 obtain ⟨fB3, nb3, ot3, z3⟩ := seg_facts hW3 fB2 b2_0 (by omega)
 have q5' := q3'
 have q6' := (hW3 ▸ q4'.setRow (by omega) _)
 clear hW3
 have b3_1 := ot3 _ _ (by omega) b2_1
 have b3_2 := ot3 _ _ (by omega) br2_0
 refine wpOps_end ?_
 refine hK2 _ _ ?_
 refine wp_seq_k fun K3 hK3 => ?_
 refine region_dk 1 [(8, 0)] [[], [0]] (rel [is (.agg #[.int .i64 q.ar, .int .i64 q.bo, .int .i64 q.wa, .int .i64 q.tl, .int .i64 q.se, .int .i64 q.ru, .int .i64 q.wo, .int .i64 q.pl, .int .i64 q.fr, .int .i64 q.ma, .slice (some ⟨gs1, 0, none⟩) (1) (cs2)])])
  ⟨is_k, trivial⟩
  ⟨fun f s W c d i j k a => opl rfl rfl rfl (a.v 1 k2_1) (blk_below nb3 c) Try.underlying32 rfl (by kernel_rfl) rfl, trivial⟩ ?_
 intro f4 s4 W4 hB4 g4 hg4
 have fB4 := hB4.f fB3
 have z4 := hB4.below.size
 have b4_0 := hB4.b nb3
 have b4_1 := hB4.b b3_1
 have b4_2 := hB4.b b3_2
 have q7' := q5'
 have q8' := (q6'.below hB4.below)
 have k4_2 := kt hg4 2 k2_2
 have k4_8 := kt hg4 8 (hB4.is 0)
 obtain ⟨W5, hW5⟩ : ∃ W', W' = W4.setRow (s1 1) #[.int .i64 q.ar, .int .i64 q.bo, .int .i64 q.wa, .int .i64 q.tl, .int .i64 q.se, .int .i64 q.ru, .int .i64 q.wo, .int .i64 q.pl, .int .i64 q.fr, .int .i64 q.ma, .slice (some ⟨gs1, 0, none⟩) (1) (cs2)] := ⟨_, rfl⟩
 refine tail_skip (o := _) rfl ⟨rfl, rfl⟩ (run_seg hW5 (fr_ev k4_2) (fr_ev k4_8) b4_1 rfl rfl rfl rfl) ?_
 obtain ⟨fB5, nb5, ot5, z5⟩ := seg_facts hW5 fB4 b4_1 (by omega)
 have q9' := q7'
 have q10' := (hW5 ▸ q8'.setRow (by omega) _)
 clear hW5
 have b5_0 := ot5 _ _ (by omega) b4_0
 have b5_2 := ot5 _ _ (by omega) b4_2
 refine wpOps_end ?_
 refine hK3 _ _ ?_
 refine wp_ret ?_
 refine leave_gen (v := .agg #[.int .i64 q.ar, .int .i64 q.bo, .int .i64 q.wa, .int .i64 q.tl, .int .i64 q.se, .int .i64 q.ru, .int .i64 q.wo, .int .i64 q.pl, .int .i64 q.fr, .int .i64 q.ma, .slice (some ⟨gs1, 0, none⟩) (1) (cs2)]) (.inr rfl) (by simp [results, Try.results9, go_sem, frv 9 k4_2, cl nb5 0, cl nb5 1, cl nb5 2, cl nb5 3, cl nb5 4, cl nb5 5, cl nb5 6, cl nb5 7, cl nb5 8, cl nb5 9, cl nb5 10]) ?_
 exact ⟨_, rfl, ⟨_, _, _, rfl, q10'⟩, fB5⟩
end Go.Proofs.Ytolnpbpeifpbjaa
namespace Go.Proofs.Ytolnpbpeifpbjaa
theorem upQ_mono {a b d : Int} (h : a ≤ b) (hd : 1 ≤ d) : upQ a d ≤ upQ b d := Int.ediv_le_ediv (by omega) (by omega)
theorem mul_mono {a b c d : Int} (h1 : 0 ≤ a) (h2 : a ≤ b) (h3 : 0 ≤ c) (h4 : c ≤ d) : a * c ≤ b * d := Int.mul_le_mul h2 h4 h3 (by omega)
/-- A quote with another area. -/
def quA (q : Qu) (ar : Int) : Qu := { q with ar := ar }
theorem quA_in {q : Qu} (hq : QuIn q) {ar : Int} (h : 1 ≤ ar ∧ ar ≤ 100000) : QuIn (quA q ar) := ⟨h, hq.bo, hq.wa, hq.tl, hq.se, hq.ru, hq.wo, hq.pl, hq.fr, hq.ma, hq.sf, hq.so⟩
theorem cost_mono {q : Qu} (hq : QuIn q) {a b x y : Int} (ha : 1 ≤ a ∧ a ≤ 100000) (hb : 1 ≤ b ∧ b ≤ 100000) (hab : a ≤ b) (hx : 1 ≤ x) (hxy : x ≤ y) (hy : y ≤ 100000) : costQ (quA q a) x ≤ costQ (quA q b) y := by
  have hA := quNo (quA_in hq ha) (n := x) ⟨hx, by omega⟩
  obtain ⟨h1, h2, h3, h4, h5, h6, h7, h8, h9, h10, h11, h12⟩ := hq
  have m1 : b1Q (quA q a) x ≤ b1Q (quA q b) y := mul_mono (by omega) hxy (show 0 ≤ a by omega) hab
  have m2 : b2Q (quA q a) x ≤ b2Q (quA q b) y := mul_mono hA.b1.1 m1 (show 0 ≤ 1000 + q.wa by omega) (Int.le_refl _)
  have m3 : b3Q (quA q a) x ≤ b3Q (quA q b) y := mul_mono hA.b2.1 m2 h2.1 (Int.le_refl _)
  have m4 : boardQ (quA q a) x ≤ boardQ (quA q b) y := upQ_mono m3 (by decide)
  have m5 : setQ (quA q a) x ≤ setQ (quA q b) y := mul_mono h5.1 (Int.le_refl _) hA.ur.1 (upQ_mono hxy h6.1)
  have m6 : workQ (quA q a) x ≤ workQ (quA q b) y := upQ_mono (mul_mono h7.1 (Int.le_refl _) (by omega) hxy) (by decide)
  have m7 : frQ (quA q a) x ≤ frQ (quA q b) y := mul_mono h9.1 (Int.le_refl _) hA.up.1 (upQ_mono hxy h8.1)
  show boardQ (quA q a) x + q.tl + setQ (quA q a) x + workQ (quA q a) x + frQ (quA q a) x ≤ boardQ (quA q b) y + q.tl + setQ (quA q b) y + workQ (quA q b) y + frQ (quA q b) y
  omega
theorem price_mono {q : Qu} (hq : QuIn q) {a b x y : Int} (ha : 1 ≤ a ∧ a ≤ 100000) (hb : 1 ≤ b ∧ b ≤ 100000) (hab : a ≤ b) (hx : 1 ≤ x) (hxy : x ≤ y) (hy : y ≤ 100000) (ho : offQ (quA q a) x = offQ (quA q b) y) : priceQ (quA q a) x ≤ priceQ (quA q b) y := by
  have hA := quNo (quA_in hq ha) (n := x) ⟨hx, by omega⟩
  have m1 : p1Q (quA q a) x ≤ p1Q (quA q b) y := mul_mono hA.co.1 (cost_mono hq ha hb hab hx hxy hy) (by have := hq.ma; show 0 ≤ 1000 + q.ma; omega) (Int.le_refl _)
  have m2 : p2Q (quA q a) x ≤ p2Q (quA q b) y := by
    have := hA.of
    refine mul_mono hA.p1.1 m1 (by omega) (by rw [ho]; exact Int.le_refl _)
  exact upQ_mono m2 (by decide)
/-- The greatest number in a stretch whose price is not above some money. -/
theorem top_of {f : Int → Int} {lo mo : Int} (n : Nat) (h0 : f lo ≤ mo) (hm : ∀ x y, lo ≤ x → x ≤ y → y ≤ lo + n → f x ≤ f y) : ∃ an, (lo ≤ an ∧ an ≤ lo + n) ∧ ∀ x, lo ≤ x → x ≤ lo + n → (f x ≤ mo ↔ x ≤ an) := by
  induction n with
  | zero => exact ⟨lo, ⟨Int.le_refl _, by omega⟩, fun x h1 h2 => ⟨fun _ => by omega, fun _ => by rw [show x = lo by omega]; exact h0⟩⟩
  | succ n ih =>
    by_cases h : f (lo + (n + 1 : Nat)) ≤ mo
    · refine ⟨lo + (n + 1 : Nat), ⟨by omega, Int.le_refl _⟩, fun x h1 h2 => ⟨fun _ => h2, fun _ => ?_⟩⟩
      have := hm x (lo + (n + 1 : Nat)) h1 h2 (Int.le_refl _)
      omega
    · obtain ⟨an, h1, h2⟩ := ih (fun x y e1 e2 e3 => hm x y e1 e2 (by omega))
      refine ⟨an, ⟨h1.1, by omega⟩, fun x e1 e2 => ?_⟩
      by_cases e : x = lo + (n + 1 : Nat)
      · subst e; exact ⟨fun h' => absurd h' h, fun h' => by omega⟩
      · exact h2 x e1 (by omega)
theorem top_in {f : Int → Int} {lo hi mo : Int} (hlh : lo ≤ hi) (h0 : f lo ≤ mo) (hm : ∀ x y, lo ≤ x → x ≤ y → y ≤ hi → f x ≤ f y) : ∃ an, (lo ≤ an ∧ an ≤ hi) ∧ ∀ x, lo ≤ x → x ≤ hi → (f x ≤ mo ↔ x ≤ an) := by
  obtain ⟨n, rfl⟩ : ∃ n : Nat, hi = lo + n := ⟨(hi - lo).toNat, by omega⟩
  exact top_of n h0 hm
theorem off_hi {q : Qu} {a b x y : Int} (hx : q.sf ≤ x) (hy : q.sf ≤ y) : offQ (quA q a) x = offQ (quA q b) y := by
  show (if q.sf ≤ x then q.so else 0) = if q.sf ≤ y then q.so else 0
  rw [if_pos hx, if_pos hy]
theorem off_lo {q : Qu} {a b x y : Int} (hx : x < q.sf) (hy : y < q.sf) : offQ (quA q a) x = offQ (quA q b) y := by
  show (if q.sf ≤ x then q.so else 0) = if q.sf ≤ y then q.so else 0
  rw [if_neg (by omega), if_neg (by omega)]
/-- What money buys, that pays some number: there is a greatest number, and it is no smaller than this one. -/
theorem most_of {q : Qu} (hq : QuIn q) {a : Int} (ha : 1 ≤ a ∧ a ≤ 100000) {mo n : Int} (hn : 1 ≤ n ∧ n ≤ 100000) (hp : priceQ (quA q a) n ≤ mo) : ∃ an, MostAt (quA q a) mo an ∧ n ≤ an := by
  have hsf := hq.sf
  by_cases h : priceQ (quA q a) q.sf ≤ mo
  · obtain ⟨an, h1, h2⟩ := top_in (f := priceQ (quA q a)) (mo := mo) hsf.2 h fun x y e1 e2 e3 => price_mono hq ha ha (Int.le_refl _) (by omega) e2 e3 (off_hi e1 (by omega))
    refine ⟨an, .inl ⟨h1, h2⟩, ?_⟩
    by_cases hs : q.sf ≤ n
    · exact (h2 n hs hn.2).1 hp
    · omega
  · have hs : n < q.sf := by
      by_cases hs : n < q.sf
      · exact hs
      · have := price_mono hq ha ha (Int.le_refl _) hsf.1 (show q.sf ≤ n by omega) hn.2 (off_hi (Int.le_refl _) (by omega))
        omega
    have m := fun (x y : Int) (e1 : 1 ≤ x) (e2 : x ≤ y) (e3 : y ≤ q.sf - 1) => price_mono hq ha ha (Int.le_refl _) e1 e2 (show y ≤ 100000 by omega) (off_lo (q := q) (a := a) (b := a) (show x < q.sf by omega) (show y < q.sf by omega))
    have h0 : priceQ (quA q a) 1 ≤ mo := by have := m 1 n (Int.le_refl _) hn.1 (by omega); omega
    obtain ⟨an, h1, h2⟩ := top_in (f := priceQ (quA q a)) (mo := mo) (lo := 1) (hi := q.sf - 1) (by omega) h0 m
    exact ⟨an, .inr ⟨show 1 < q.sf by omega, show mo < priceQ (quA q a) q.sf by omega, h1, h2⟩, (h2 n hn.1 (by omega)).1 hp⟩
theorem most_le {q : Qu} (hq : QuIn q) {a b : Int} (ha : 1 ≤ a ∧ a ≤ 100000) (hb : 1 ≤ b ∧ b ≤ 100000) (hab : a ≤ b) {mo x y : Int} (hx : MostAt (quA q a) mo x) (hy : MostAt (quA q b) mo y) : y ≤ x := by
  have hsf := hq.sf
  rcases hy with ⟨h1, h2⟩ | ⟨h0, h1, h2, h3⟩
  · have h1' : q.sf ≤ y ∧ y ≤ 100000 := h1
    have hp : priceQ (quA q a) y ≤ mo := Int.le_trans (price_mono hq ha hb hab (by omega) (Int.le_refl _) h1.2 (off_hi h1'.1 h1'.1)) ((h2 y h1.1 h1.2).2 (Int.le_refl _))
    rcases hx with ⟨g1, g2⟩ | ⟨g0, g1, g2, g3⟩
    · exact (g2 y h1.1 h1.2).1 hp
    · have g1' : mo < priceQ (quA q a) q.sf := g1
      have := price_mono hq ha ha (Int.le_refl _) hsf.1 h1'.1 h1.2 (off_hi (Int.le_refl _) h1'.1)
      omega
  · have h2' : 1 ≤ y ∧ y ≤ q.sf - 1 := h2
    rcases hx with ⟨g1, g2⟩ | ⟨g0, g1, g2, g3⟩
    · have g1' : q.sf ≤ x := g1.1
      omega
    · have hp : priceQ (quA q a) y ≤ mo := Int.le_trans (price_mono hq ha hb hab h2.1 (Int.le_refl _) (by omega) (off_lo (by omega) (by omega))) ((h3 y h2.1 h2.2).2 (Int.le_refl _))
      exact (g3 y h2.1 h2.2).1 hp
end Go.Proofs.Ytolnpbpeifpbjaa
