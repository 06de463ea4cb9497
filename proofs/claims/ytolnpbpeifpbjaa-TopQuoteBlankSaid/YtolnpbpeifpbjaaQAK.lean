/- Part of the proof: what the claim leans on. -/
import Derived.Test.YtolnpbpeifpbjaaQAJ
import Derived.Test.YtolnpbpeifpbjaaQAH
import Derived.RangeFuncNested
import Derived.RangeFuncBound
import Derived.RangeFuncCalls
import Derived.RangeFuncLeaves
import Derived.Shelf.Abstract
import Derived.Shelf.RegionOpen
import Derived.WalkKit
import Derived.OwnWalkIn
import Derived.TacticsInMore
import Derived.LoopNIn
import Derived.LoopIn
import Derived.Test.YtolnpbpeifpbjaaQAA
set_option linter.unusedSimpArgs false
set_option linter.unusedVariables false
namespace Go.Proofs.Ytolnpbpeifpbjaa
open Go.RowKit
set_option maxRecDepth 100000 in
set_option maxHeartbeats 400000 in
theorem gcd_any (na nb : Nat) (w : World) (hna : na ≤ 1000000000000) (hnb : nb ≤ 1000000000000) :
  Calls Try.prog 28 #[.int .i64 ((na : Int)), .int .i64 ((nb : Int))] w (fun e w' => e = .returned (.int .i64 ((Nat.gcd na nb : Nat) : Int)) ∧ Below w.heap.size w w') := by
 refine calls_fr Try.func28 Try.ntmps28 rfl rfl fun g hg => ?_
 have k0 : g 0 = .int .i64 ((na : Int)) := hg 0
 have k1 : g 1 = .int .i64 ((nb : Int)) := hg 1
 clear hg
 have fB0 : Below w.heap.size w w := Below.refl _ _
 refine wp_seq_k fun K1 hK1 => ?_
 refine region_dk 1 [(4, 0)] [[]] (rel [is (.int .i64 0)])
  ⟨is_k, trivial⟩
  ⟨fun f s W b c d h i a => opv rfl rfl (by simp [go_sem]) rfl, trivial⟩ ?_
 intro f1 s1 W1 hB1 g1 hg1
 have fB1 := hB1.f fB0
 have z1 := hB1.below.size
 refine hK1 _ _ ?_
 have k1_0 := kt hg1 0 k0
 have k1_1 := kt hg1 1 k1
 have k1_4 := kt hg1 4 (hB1.is 0)
 refine wp_seq_k fun K2 hK2 => ?_
 refine wp_block ?_
 refine wp_loop_n (fun m_ a_ W_ => ∃ g_ : Nat → Value, a_ = fr 12 g_ ∧ (∃ xa : Nat, ∃ xb : Nat, m_ = 2 * xb ∧ g_ 4 = .int .i64 0 ∧ g_ 0 = .int .i64 ((xa : Int)) ∧ g_ 1 = .int .i64 ((xb : Int)) ∧ Below w.heap.size w W_ ∧ W1.heap.size ≤ W_.heap.size ∧ (xa ≤ 1000000000000) ∧ (xb ≤ 1000000000000) ∧ (Nat.gcd xa xb = Nat.gcd na nb))) ⟨_, g1, rfl, na, nb, rfl, k1_4, k1_0.trans (by rfl), k1_1.trans (by rfl), fB1, Nat.le_refl _, hna, hnb, rfl⟩ ?_
 rintro _ _ W_1 ⟨g_1, rfl, xa, xb, rfl, k_1_4, k_1_0, k_1_1, fB_1, z_1, lp0, lp1, lp2⟩
 refine wp_seq_k fun K3 hK3 => ?_
 refine wp_seq_k fun K4 hK4 => ?_
 refine region_dk 2 [(5, 0), (6, 1)] [[], [0]] (rel [is (.int .i64 ((xb : Int))),
   is (.bool (decide (0 < (xb : Int))))])
  ⟨is_k, is_k, trivial⟩
  ⟨fun f s W b c d h i a => opv rfl rfl (by simp [go_sem, a.e 1 k_1_1]) rfl,
  fun f s W b c d h i a => opv rfl rfl (by simp [go_sem, a.e 5 (c 0 rfl)]) rfl, trivial⟩ ?_
 intro f2 s2 W2 hB2 g2 hg2
 have fB2 := hB2.f fB_1
 have z2 := hB2.below.size
 refine hK4 _ _ ?_
 have k2_4 := kt hg2 4 k_1_4
 have k2_0 := kt hg2 0 k_1_0
 have k2_1 := kt hg2 1 k_1_1
 have k2_6 := kt hg2 6 (hB2.is 1)
 refine wp_cond_split (t := decide (0 < (xb : Int))) ((fr_eval rfl).trans k2_6) (fun hc5 => ?_) (fun hc5 => ?_)
 ·
  have hc5' := hc5; try simp only [ba] at hc5'
  refine wp_skip ?_
  refine hK3 _ _ ?_
  refine wp_block ?_
  refine region_dk 6 [(7, 0), (8, 1), (9, 2), (10, 3), (0, 4), (1, 5)] [[], [], [], [1, 2], [0, 1], [0, 1, 2, 3, 4]] (rel [is (.int .i64 ((xb : Int))),
   is (.int .i64 ((xa : Int))),
   is (.int .i64 ((xb : Int))),
   is (.int .i64 (((xa % xb : Nat) : Int))),
   is (.int .i64 ((xb : Int))),
   is (.int .i64 (((xa % xb : Nat) : Int)))])
   ⟨is_k, is_k, is_k, is_k, is_k, is_k, trivial⟩
   ⟨fun f s W b c d h i a => opv rfl rfl (by simp [go_sem, a.e 1 ((h 5 1 rfl rfl).trans k2_1)]) rfl,
  fun f s W b c d h i a => opv rfl rfl (by simp [go_sem, a.e 0 ((h 4 0 rfl rfl).trans k2_0)]) rfl,
  fun f s W b c d h i a => opv rfl rfl (by simp [go_sem, a.e 1 ((h 5 1 rfl rfl).trans k2_1)]) rfl,
  fun f s W b c d h i a => by have qu_ : ((xa : Nat) : Int).tmod (xb : Int) = ((xa % xb : Nat) : Int) := (Int.tmod_eq_emod_of_nonneg (by omega)).trans (Int.natCast_emod xa xb).symm; have qw_ := IntWalk.i64_in (((xa % xb : Nat) : Int)) (by have := Nat.mod_le xa xb; omega); have qz_ : ¬ ((xb : Nat) : Int) = 0 := (by omega); have qy_ : ¬ xb = 0 := (by omega); exact opv rfl rfl (by simp [go_sem, a.e 8 (c 1 rfl), a.e 9 (c 2 rfl), qu_, qw_, qz_, qy_]) rfl,
  fun f s W b c d h i a => opv rfl rfl (by simp [go_sem, a.e 7 (c 0 rfl)]) rfl,
  fun f s W b c d h i a => opv rfl rfl (by simp [go_sem, a.e 10 (c 3 rfl)]) rfl, trivial⟩ ?_
  intro f3 s3 W3 hB3 g3 hg3
  have fB3 := hB3.f fB2
  have z3 := hB3.below.size
  refine wpOps_end ?_
  have k3_4 := kt hg3 4 k2_4
  have k3_0 := kt hg3 0 (hB3.is 4)
  have k3_1 := kt hg3 1 (hB3.is 5)
  refine inBlock_normal ?_
  refine then_normal ?_
  exact ⟨_, by have := Nat.mod_lt xa (show 0 < xb by omega); omega, g3, rfl, xb, (xa % xb), rfl, k3_4, k3_0.trans (by go_num), k3_1.trans (by go_num), fB3, (by omega), (by omega), (by have := Nat.mod_le xa xb; omega), (by rw [← lp2]; exact (Nat.gcd_comm xb (xa % xb)).trans ((Nat.gcd_comm xa xb).trans (Nat.gcd_rec xb xa)).symm)⟩
 ·
  have hc5' := hc5; try simp only [ba] at hc5'
  refine wp_exit ?_
  refine then_exit ?_
  refine then_exit ?_
  refine inBlock_at ?_
  refine hK2 _ _ ?_
  refine wp_seq_k fun K6 hK6 => ?_
  refine region_dk 2 [(11, 0), (4, 1)] [[], [0]] (rel [is (.int .i64 ((xa : Int))),
   is (.int .i64 ((xa : Int)))])
   ⟨is_k, is_k, trivial⟩
   ⟨fun f s W b c d h i a => opv rfl rfl (by simp [go_sem, a.e 0 k2_0]) rfl,
  fun f s W b c d h i a => opv rfl rfl (by simp [go_sem, a.e 11 (c 0 rfl)]) rfl, trivial⟩ ?_
  intro f4 s4 W4 hB4 g4 hg4
  have fB4 := hB4.f fB2
  have z4 := hB4.below.size
  refine hK6 _ _ ?_
  have k4_4 := kt hg4 4 (hB4.is 1)
  refine wp_ret ?_
  refine leave_one (N := 12) (v := .int .i64 ((xa : Int))) (.inr rfl) Try.results28 rfl k4_4 ?_
  exact ⟨by rw [← lp2, show xb = 0 by omega, Nat.gcd_zero_right], fB4⟩
set_option maxRecDepth 100000 in
set_option maxHeartbeats 8000000 in
theorem Each_ok (q : Qu) (bs os cs : Nat) (n pp gg rr dd : Int) (pn nn : Nat) (w : World) (hR : StepR w bs os q) (hq : QuIn q) (gn : 1 ≤ n ∧ n ≤ 100000) (hpp : priceQ q n = pp) (gpp : 0 ≤ pp ∧ pp ≤ 600000000001) (hpn : (pn : Int) = pp) (hnn : (nn : Int) = n) (hgg : ((Nat.gcd pn nn : Nat) : Int) = gg) (ggg : 1 ≤ gg ∧ gg ≤ 100000) (hrr : pp / gg = rr) (hdd : n / gg = dd) (grr : 0 ≤ rr ∧ rr ≤ 600000000001) (gdd : 0 ≤ dd ∧ dd ≤ 100000) :
  Calls Try.prog 10 #[.agg #[.int .i64 q.ar, .int .i64 q.bo, .int .i64 q.wa, .int .i64 q.tl, .int .i64 q.se, .int .i64 q.ru, .int .i64 q.wo, .int .i64 q.pl, .int .i64 q.fr, .int .i64 q.ma, .slice (some ⟨bs, os, none⟩) (1) (cs)], .int .i64 n] w (fun e w' => e = .returned (.tuple #[.agg #[.int .i64 rr, .int .i64 dd], .int .i64 0]) ∧ Below w.heap.size w w') := by
 refine calls_fr Try.func10 Try.ntmps10 rfl rfl fun g hg => ?_
 have k0 : g 0 = .agg #[.int .i64 q.ar, .int .i64 q.bo, .int .i64 q.wa, .int .i64 q.tl, .int .i64 q.se, .int .i64 q.ru, .int .i64 q.wo, .int .i64 q.pl, .int .i64 q.fr, .int .i64 q.ma, .slice (some ⟨bs, os, none⟩) (1) (cs)] := hg 0
 have k1 : g 1 = .int .i64 n := hg 1
 clear hg
 have fB0 : Below w.heap.size w w := Below.refl _ _
 refine wp_seq_k fun K1 hK1 => ?_
 refine region_dk 3 [(2, 0), (4, 1), (5, 2)] [[], [], []] (rel [bx 0 #[.int .i64 q.ar, .int .i64 q.bo, .int .i64 q.wa, .int .i64 q.tl, .int .i64 q.se, .int .i64 q.ru, .int .i64 q.wo, .int .i64 q.pl, .int .i64 q.fr, .int .i64 q.ma, .slice (some ⟨bs, os, none⟩) (1) (cs)] 32,
   bx 1 #[.int .i64 0, .int .i64 0] 49,
   is (.int .i64 0)])
  ⟨bx_k, bx_k, is_k, trivial⟩
  ⟨fun f s W hW c d i j a => opb rfl rfl (by simp [go_sem, a.e 0 k0]),
  fun f s W hW c d i j a => opb rfl rfl (by simp [go_sem]),
  fun f s W hW c d i j a => opv rfl rfl (by simp [go_sem]) rfl, trivial⟩ ?_
 intro f1 s1 W1 hB1 g1 hg1
 have fB1 := hB1.f fB0
 have z1 := hB1.below.size
 obtain ⟨r1_0, br1_0⟩ := hB1.is 0
 have lr1_0 := hB1.lr 0 br1_0
 obtain ⟨r1_1, br1_1⟩ := hB1.is 1
 have lr1_1 := hB1.lr 1 br1_1
 have ne1_0_1 := hB1.nb 0 1
 refine hK1 _ _ ?_
 have k1_1 := kt hg1 1 k1
 have k1_2 := kt hg1 2 r1_0
 have k1_4 := kt hg1 4 r1_1
 have k1_5 := kt hg1 5 (hB1.is 2)
 refine wp_seq_k fun K2 hK2 => ?_
 refine region_doS (W1.heap.size) (fun t => [86].contains t) [(7, 6)] 8 [(10, 0), (11, 1), (12, 2), (9, 3), (13, 4), (14, 5), (6, 6), (5, 8)] [[], [], [0, 1], [0, 1, 2], [0, 1, 2, 3], [0, 1, 2, 3], [], [0, 1, 2, 3, 4, 6], [0, 1, 2, 3, 4, 5, 6, 7]] (rel [is (.agg #[.int .i64 q.ar, .int .i64 q.bo, .int .i64 q.wa, .int .i64 q.tl, .int .i64 q.se, .int .i64 q.ru, .int .i64 q.wo, .int .i64 q.pl, .int .i64 q.fr, .int .i64 q.ma, .slice (some ⟨bs, os, none⟩) (1) (cs)]),
   is (.int .i64 n),
   is (.tuple #[.agg #[.int .i64 q.ar, .int .i64 q.bo, .int .i64 q.wa, .int .i64 q.tl, .int .i64 q.se, .int .i64 q.ru, .int .i64 q.wo, .int .i64 q.pl, .int .i64 q.fr, .int .i64 q.ma, .slice (some ⟨bs, os, none⟩) (1) (cs)], .int .i64 0]),
   is (.tuple #[.agg #[.int .i64 q.ar, .int .i64 q.bo, .int .i64 q.wa, .int .i64 q.tl, .int .i64 q.se, .int .i64 q.ru, .int .i64 q.wo, .int .i64 q.pl, .int .i64 q.fr, .int .i64 q.ma, .slice (some ⟨bs, os, none⟩) (1) (cs)], .int .i64 0]),
   is (.agg #[.int .i64 q.ar, .int .i64 q.bo, .int .i64 q.wa, .int .i64 q.tl, .int .i64 q.se, .int .i64 q.ru, .int .i64 q.wo, .int .i64 q.pl, .int .i64 q.fr, .int .i64 q.ma, .slice (some ⟨bs, os, none⟩) (1) (cs)]),
   is (.int .i64 0),
   boxK (W1.heap.size) 86 11 6,
   stoS 86 6 #[.int .i64 q.ar, .int .i64 q.bo, .int .i64 q.wa, .int .i64 q.tl, .int .i64 q.se, .int .i64 q.ru, .int .i64 q.wo, .int .i64 q.pl, .int .i64 q.fr, .int .i64 q.ma, .slice (some ⟨bs, os, none⟩) (1) (cs)]]) (by kernel_rfl) (by kernel_rfl) (by kernel_rfl) (by kernel_rfl) (by decide) ⟨fun _ _ _ h => boxK_lt h, trivial⟩
  ⟨ks_l (is_kl), ks_l (is_kl), ks_l (is_kl), ks_l (is_kl), ks_l (is_kl), ks_l (is_kl), ks_l (boxK_k rfl), ks_s rfl (by decide), trivial⟩
  ⟨fun f s W hT c d i j a => by have hW := LeK.below hT (Nat.le_refl _); exact OpDo.s (opl rfl rfl rfl (a.v 2 k1_2) (blk_below br1_0 hW) Try.underlying32 rfl (by kernel_rfl) rfl),
  fun f s W hT c d i j a => by have hW := LeK.below hT (Nat.le_refl _); exact OpDo.s (opv rfl rfl (by simp [go_sem, a.e 1 k1_1]) rfl),
  fun f s W hT c d i j a => by have hW := LeK.below hT (Nat.le_refl _); exact OpDo.s (by have k := below_trans fB1 hW; exact opc rfl rfl (by simp [go_sem, a.e 10 (c 0 rfl), a.e 11 (c 1 rfl)]) (openCount_ok q bs os cs n W (hR.below k) hq gn)),
  fun f s W hT c d i j a => by have hW := LeK.below hT (Nat.le_refl _); exact OpDo.s (opv rfl rfl (by simp [go_sem, a.e 12 (c 2 rfl)]) rfl),
  fun f s W hT c d i j a => by have hW := LeK.below hT (Nat.le_refl _); exact OpDo.s (opv rfl rfl (by simp [go_sem, a.e 9 (c 3 rfl)]) rfl),
  fun f s W hT c d i j a => by have hW := LeK.below hT (Nat.le_refl _); exact OpDo.s (opv rfl rfl (by simp [go_sem, a.e 9 (c 3 rfl)]) rfl),
  fun f s W hT c d i j a => opS (cs := #[.int .i64 0, .int .i64 0, .int .i64 0, .int .i64 0, .int .i64 0, .int .i64 0, .int .i64 0, .int .i64 0, .int .i64 0, .int .i64 0, .slice (none) (0) (0)]) (hT.size) rfl rfl (by simp [go_sem]) rfl,
  fun f s W hT c d i j a => stoS_do (#[.int .i64 q.ar, .int .i64 q.bo, .int .i64 q.wa, .int .i64 q.tl, .int .i64 q.se, .int .i64 q.ru, .int .i64 q.wo, .int .i64 q.pl, .int .i64 q.fr, .int .i64 q.ma, .slice (some ⟨bs, os, none⟩) (1) (cs)]) rfl rfl rfl (by decide) (c 6 rfl) (a.v 6 (c 6 rfl).1) (a.v 13 (c 4 rfl)) rfl rfl (by rfl) (by rfl), trivial⟩ ?_
 intro f2 s2 W2 hB2
 have hb2 := LeK.below hB2.le (Nat.le_refl _)
 have fB2 := below_trans fB1 hb2
 have z2 : W1.heap.size ≤ W2.heap.size := hb2.size
 have b2_0 := blk_below br1_0 hb2
 have b2_1 := blk_below br1_1 hb2
 obtain ⟨r2_6, lb2_6, -⟩ := hB2.is 6
 have bs2_6 : W2.heap[s2 6]? = some (.cells #[.int .i64 q.ar, .int .i64 q.bo, .int .i64 q.wa, .int .i64 q.tl, .int .i64 q.se, .int .i64 q.ru, .int .i64 q.wo, .int .i64 q.pl, .int .i64 q.fr, .int .i64 q.ma, .slice (some ⟨bs, os, none⟩) (1) (cs)] 86 (0, 0)) := hB2.is 7
 have lr2_6 : W1.heap.size ≤ s2 6 ∧ s2 6 < W2.heap.size := ⟨lb2_6, lt_of_blk bs2_6⟩
 generalize hg2 : ov [(10, 0), (11, 1), (12, 2), (9, 3), (13, 4), (14, 5), (6, 6), (5, 8)] f2 g1 = g2
 have k2_1 := kt hg2 1 k1_1
 have k2_4 := kt hg2 4 k1_4
 have k2_6 := kt hg2 6 r2_6
 have k2_14 := kt hg2 14 (hB2.is 5)
 refine tail_value (o := _) rfl rfl rfl (v := .int .i64 0) (by simp [go_sem, frv 32 k2_14]) ?_
 generalize hg3 : upd g2 5 (.int .i64 0) = g3
 have k3_1 := ku hg3 1 k2_1
 have k3_4 := ku hg3 4 k2_4
 have k3_6 := ku hg3 6 k2_6
 have k3_5 := kt hg3 5 (upd_same _ _ _)
 refine wpOps_end ?_
 refine hK2 _ _ ?_
 refine wp_seq_k fun K3 hK3 => ?_
 refine wp_seq_k fun K4 hK4 => ?_
 refine region_dk 2 [(15, 0), (16, 1)] [[], [0]] (rel [is (.int .i64 0),
   is (.bool false)])
  ⟨is_k, is_k, trivial⟩
  ⟨fun f s W hW c d i j a => opv rfl rfl (by simp [go_sem, a.e 5 k3_5]) rfl,
  fun f s W hW c d i j a => opv rfl rfl (by simp [go_sem, a.e 15 (c 0 rfl)]) rfl, trivial⟩ ?_
 intro f4 s4 W4 hB4 g4 hg4
 have fB4 := hB4.f fB2
 have z4 := hB4.below.size
 have b4_0 := hB4.b b2_0
 have b4_1 := hB4.b b2_1
 have b4_2 := hB4.b bs2_6
 refine hK4 _ _ ?_
 have k4_1 := kt hg4 1 k3_1
 have k4_4 := kt hg4 4 k3_4
 have k4_6 := kt hg4 6 k3_6
 have k4_5 := kt hg4 5 k3_5
 have k4_16 := kt hg4 16 (hB4.is 1)
 refine wp_cond_false ((fr_eval rfl).trans k4_16) ?_
 refine wp_skip ?_
 refine hK3 _ _ ?_
 refine wp_seq_k fun K6 hK6 => ?_
 refine region_dk 4 [(19, 0), (20, 1), (21, 2), (7, 3)] [[], [], [0, 1], [0, 1, 2]] (rel [is (.agg #[.int .i64 q.ar, .int .i64 q.bo, .int .i64 q.wa, .int .i64 q.tl, .int .i64 q.se, .int .i64 q.ru, .int .i64 q.wo, .int .i64 q.pl, .int .i64 q.fr, .int .i64 q.ma, .slice (some ⟨bs, os, none⟩) (1) (cs)]),
   is (.int .i64 n),
   is (.int .i64 pp),
   is (.int .i64 pp)])
  ⟨is_k, is_k, is_k, is_k, trivial⟩
  ⟨fun f s W hW c d i j a => opl rfl rfl rfl (a.v 6 k4_6) (blk_below b4_2 hW) Try.underlying86 rfl (by kernel_rfl) rfl,
  fun f s W hW c d i j a => opv rfl rfl (by simp [go_sem, a.e 1 k4_1]) rfl,
  fun f s W hW c d i j a => by have k := below_trans fB4 hW; exact opDo_call rfl rfl (by simp [go_sem, a.e 19 (c 0 rfl), a.e 20 (c 1 rfl)]) (price_ok q bs os cs n W (hR.below k) hq gn) ((fun e W' h => by have h1 := h.1; rw [hpp] at h1; exact ⟨_, h1, h.2, rfl⟩)),
  fun f s W hW c d i j a => opv rfl rfl (by simp [go_sem, a.e 21 (c 2 rfl)]) rfl, trivial⟩ ?_
 intro f5 s5 W5 hB5 g5 hg5
 have fB5 := hB5.f fB4
 have z5 := hB5.below.size
 have b5_0 := hB5.b b4_0
 have b5_1 := hB5.b b4_1
 have b5_2 := hB5.b b4_2
 refine hK6 _ _ ?_
 have k5_1 := kt hg5 1 k4_1
 have k5_4 := kt hg5 4 k4_4
 have k5_5 := kt hg5 5 k4_5
 have k5_7 := kt hg5 7 (hB5.is 3)
 refine wp_seq_k fun K7 hK7 => ?_
 refine region_dk 4 [(22, 0), (23, 1), (24, 2), (8, 3)] [[], [], [0, 1], [0, 1, 2]] (rel [is (.int .i64 pp),
   is (.int .i64 n),
   is (.int .i64 gg),
   is (.int .i64 gg)])
  ⟨is_k, is_k, is_k, is_k, trivial⟩
  ⟨fun f s W hW c d i j a => opv rfl rfl (by simp [go_sem, a.e 7 k5_7]) rfl,
  fun f s W hW c d i j a => opv rfl rfl (by simp [go_sem, a.e 1 k5_1]) rfl,
  fun f s W hW c d i j a => opDo_call (args := #[.int .i64 pp, .int .i64 n]) rfl rfl (by simp [go_sem, a.e 22 (c 0 rfl), a.e 23 (c 1 rfl)]) ((hpn ▸ hnn ▸ gcd_any pn nn W (by omega) (by omega) : Calls _ _ #[.int .i64 pp, .int .i64 n] W _)) ((fun e W' h => by have h1 := h.1; rw [hgg] at h1; exact ⟨_, h1, h.2, rfl⟩)),
  fun f s W hW c d i j a => opv rfl rfl (by simp [go_sem, a.e 24 (c 2 rfl)]) rfl, trivial⟩ ?_
 intro f6 s6 W6 hB6 g6 hg6
 have fB6 := hB6.f fB5
 have z6 := hB6.below.size
 have b6_0 := hB6.b b5_0
 have b6_1 := hB6.b b5_1
 have b6_2 := hB6.b b5_2
 refine hK7 _ _ ?_
 have k6_1 := kt hg6 1 k5_1
 have k6_4 := kt hg6 4 k5_4
 have k6_5 := kt hg6 5 k5_5
 have k6_7 := kt hg6 7 k5_7
 have k6_8 := kt hg6 8 (hB6.is 3)
 refine wp_seq_k fun K8 hK8 => ?_
 refine region_dk 7 [(25, 0), (26, 1), (27, 2), (28, 3), (29, 4), (30, 5), (31, 6), (5, 8)] [[], [], [0, 1], [], [], [3, 4], [0, 1, 2, 3, 4, 5], [0, 1, 2, 3, 4, 5, 6], [0, 1, 2, 3, 4, 5, 6, 7]] (rel [is (.int .i64 pp),
   is (.int .i64 gg),
   is (.int .i64 rr),
   is (.int .i64 n),
   is (.int .i64 gg),
   is (.int .i64 dd),
   is (.agg #[.int .i64 rr, .int .i64 dd])])
  ⟨is_k, is_k, is_k, is_k, is_k, is_k, is_k, trivial⟩
  ⟨fun f s W hW c d i j a => opv rfl rfl (by simp [go_sem, a.e 7 k6_7]) rfl,
  fun f s W hW c d i j a => opv rfl rfl (by simp [go_sem, a.e 8 k6_8]) rfl,
  fun f s W hW c d i j a => by have qu_ : (pp).tdiv gg = rr := (Int.tdiv_eq_ediv_of_nonneg (by omega)).trans hrr; have qw_ := IntWalk.i64_in rr (by omega); have qz_ : ¬ gg = 0 := (by omega); exact opv rfl rfl (by simp [go_sem, a.e 25 (c 0 rfl), a.e 26 (c 1 rfl), qu_, qw_, qz_]) rfl,
  fun f s W hW c d i j a => opv rfl rfl (by simp [go_sem, a.e 1 k6_1]) rfl,
  fun f s W hW c d i j a => opv rfl rfl (by simp [go_sem, a.e 8 k6_8]) rfl,
  fun f s W hW c d i j a => by have qu_ : (n).tdiv gg = dd := (Int.tdiv_eq_ediv_of_nonneg (by omega)).trans hdd; have qw_ := IntWalk.i64_in dd (by omega); have qz_ : ¬ gg = 0 := (by omega); exact opv rfl rfl (by simp [go_sem, a.e 28 (c 3 rfl), a.e 29 (c 4 rfl), qu_, qw_, qz_]) rfl,
  fun f s W hW c d i j a => opv rfl rfl (by simp [go_sem, a.e 27 (c 2 rfl), a.e 30 (c 5 rfl)]) rfl, trivial⟩ ?_
 intro f7 s7 W7 hB7 g7 hg7
 have fB7 := hB7.f fB6
 have z7 := hB7.below.size
 have b7_0 := hB7.b b6_0
 have b7_1 := hB7.b b6_1
 have b7_2 := hB7.b b6_2
 have k7_4 := kt hg7 4 k6_4
 have k7_31 := kt hg7 31 (hB7.is 6)
 obtain ⟨W8, hW8⟩ : ∃ W', W' = W7.setRow (s1 1) #[.int .i64 rr, .int .i64 dd] := ⟨_, rfl⟩
 refine tail_skip (o := _) rfl ⟨rfl, rfl⟩ (run_seg hW8 (fr_ev k7_4) (fr_ev k7_31) b7_1 rfl rfl rfl rfl) ?_
 obtain ⟨fB8, nb8, ot8, z8⟩ := seg_facts hW8 fB7 b7_1 (by omega)
 clear hW8
 have b8_0 := ot8 _ _ (by omega) b7_0
 have b8_2 := ot8 _ _ (by omega) b7_2
 refine tail_value (o := _) rfl rfl rfl (v := .int .i64 0) (by simp [go_sem]) ?_
 generalize hg9 : upd g7 5 (.int .i64 0) = g9
 have k9_4 := ku hg9 4 k7_4
 have k9_5 := kt hg9 5 (upd_same _ _ _)
 refine wpOps_end ?_
 refine hK8 _ _ ?_
 refine wp_ret ?_
 refine leave_gen (v := .tuple #[.agg #[.int .i64 rr, .int .i64 dd], .int .i64 0]) (.inr rfl) (by simp [results, Try.results10, go_sem, frv 32 k9_4, cl nb8 0, cl nb8 1, frv 32 k9_5]) ?_
 exact ⟨rfl, fB8⟩
end Go.Proofs.Ytolnpbpeifpbjaa
namespace Go.Proofs.Ytolnpbpeifpbjaa
open Go.RowKit Go.Shelf
/-- All blocks but those of S are kept. -/
structure KeepP (S : Nat → Prop) (W W' : World) : Prop where
  os : W'.os = W.os
  tape : W'.tape = W.tape
  output : W'.output = W.output
  size : W.heap.size ≤ W'.heap.size
  block : ∀ k o, ¬ S k → W.heap[k]? = some o → W'.heap[k]? = some o
theorem KeepP.refl (S : Nat → Prop) (W : World) : KeepP S W W := ⟨rfl, rfl, rfl, Nat.le_refl _, fun _ _ _ h => h⟩
theorem KeepP.trans {S : Nat → Prop} {A B C : World} (h : KeepP S A B) (k : KeepP S B C) : KeepP S A C :=
  ⟨k.os.trans h.os, k.tape.trans h.tape, k.output.trans h.output, Nat.le_trans h.size k.size, fun i o hi hx => k.block i o hi (h.block i o hi hx)⟩
theorem KeepP.of_below {S : Nat → Prop} {A B : World} (h : Below A.heap.size A B) : KeepP S A B :=
  ⟨h.os, h.tape, h.output, h.size, fun i o _ hx => (h.block i (Array.getElem?_eq_some_iff.1 hx).1).trans hx⟩
theorem KeepP.below {S : Nat → Prop} {B : Nat} {A C : World} (h : KeepP S A C) (hb : ∀ k, S k → B ≤ k) (hB : B ≤ A.heap.size) : Below B A C :=
  ⟨h.os, h.tape, h.output, h.size, fun k hk => by
    have hx : A.heap[k]? = some A.heap[k] := Array.getElem?_eq_getElem (by omega)
    rw [hx]; exact h.block k _ (fun hs => by have := hb k hs; omega) hx⟩
theorem KeepP.more {S S' : Nat → Prop} {A B : World} (h : KeepP S A B) (hs : ∀ k, S k → S' k) : KeepP S' A B :=
  ⟨h.os, h.tape, h.output, h.size, fun k o hk hx => h.block k o (fun e => hk (hs k e)) hx⟩
set_option maxHeartbeats 4000000 in
theorem range_all {n : Nat} {P : Program} {g : Operand} {ps : Array Tmp} {assign body : Code} {Q : Exit → Act → World → Prop} {a : Act} {w : World} {gf : Nat} {rcv lb : Array Value}
    (hg : a.eval g = .func (.func gf) rcv lb) (eg : ∀ args w, (callFunc gf args).run P w = .ok (.enter gf args) w) (m : Nat) (encs : Nat → Array Value) (hps : ∀ i, (encs i).size = ps.size) (S : Nat → Prop)
    (I : Nat → World → Prop) (hIb : ∀ i B W W', w.heap.size ≤ B → I i W → Below B W W' → I i W') (hIp : ∀ i W l o, w.heap.size ≤ l → I i W → I i (W.putObj l o))
    (hit : ∀ (l : Nat) (W1 : World) (J : Nat → World → Prop), w.heap.size ≤ l → Below w.heap.size w W1 → (∀ i W W', J i W → Below W1.heap.size W W' → J i W') →
      (∀ i W, i < m → J i W → YieldAt Fence.wide (n - 1 - 1) P l (encs i) W fun e W' => e = .returned (.bool true) ∧ J (i + 1) W' ∧ KeepP S W W') → J 0 W1 →
      CallsIn Fence.wide (n - 1) P gf (rcv ++ #[.func (.yield l) #[] #[]] ++ lb) W1 fun e W' => (∃ v, e = .returned v) ∧ J m W')
    (h0 : I 0 w) (A : Nat → Act → World → Prop) (hAp : ∀ i a' W o, A i a' W → A i a' (W.putObj (w.heap.size + 1) o))
    (hassign : ∀ (l i : Nat) (W : World) (K : Act → World → Prop), I i W → w.heap.size + 1 < W.heap.size → (∀ a' W', Below W.heap.size W W' → I i W' → A i a' W' → K a' W') → assign.wpIn (Fence.wide.inRound l) (n - 1 - 1) P (Exit.then K fun _ _ _ => False) { tmps := (ps.zip (encs i)).foldl (fun t (p, v) => t.setIfInBounds p v) a.tmps, defers := [] } W)
    (hS : ∀ b, S b → b < w.heap.size)
    (hbody : ∀ (l i : Nat) (a' : Act) (W : World), i < m → I i W → A i a' W → body.wpIn (Fence.wide.inRound l) (n - 1 - 1) P (fun e _ W' => e = .normal ∧ I (i + 1) W' ∧ KeepP S W W') a' W)
    (hdone : ∀ (D : Nat) (W : World), w.heap.size ≤ D → I m W → W.heap[D]? = some (.deferred (some [])) → Q .normal { a with defers := { target := .collected D, args := #[] } :: a.defers } W) :
    (Code.rangeFunc g ps assign body).wpIn Fence.wide n P Q a w := by
  refine wpIn_rangeFunc fun fn _ => ?_
  obtain ⟨rc, hrc⟩ : ∃ rc : LoopState → Option Code → Loop, ∀ st pe, rc st pe = { state := st, pending := pe, fn, tmps := a.tmps, params := ps, assign, body, defers := w.heap.size } := ⟨_, fun _ _ => rfl⟩
  obtain ⟨V, hV⟩ : ∃ V, (w.alloc (.deferred (some []))).alloc (.loop (rc .ready none)) = V := ⟨_, rfl⟩
  have hbV : Below w.heap.size w V := hV ▸ ((Below.refl _ w).alloc (Nat.le_refl _) _).alloc (by simp) _
  have hL : V.heap[w.heap.size + 1]? = some (.loop (rc .ready none)) := by
    rw [← hV]; have := World.alloc_heap_new (w.alloc (.deferred (some []))) (.loop (rc .ready none)); rwa [World.size_alloc] at this
  have hD : V.heap[w.heap.size]? = some (.deferred (some [])) := by
    rw [← hV]; exact (Below.heap_alloc _ _ _ (by simp)).trans (World.alloc_heap_new w _)
  refine ⟨w.heap.size + 1, [{ target := .collected w.heap.size, args := #[] }], V, { target := .fn (.func gf) lb, args := rcv ++ #[.func (.yield (w.heap.size + 1)) #[] #[]] }, V, gf, rcv ++ #[.func (.yield (w.heap.size + 1)) #[] #[]] ++ lb, V, ?_, ?_, fun _ _ => trivial, ?_, fun h => by simp [Fence.wide] at h, ?_⟩
  · rw [← hV, hrc]; exact run_enterLoop_outer _ _ _ _ _
  · simp only [resolve, hg]
    simp [go_sem]
  · simp [invoke, go_sem, eg]
  · have keep : ∀ {A B : World} {k : Nat} {o : Obj}, A.heap[k]? = some o → Below A.heap.size A B → B.heap[k]? = some o := fun hx hb => (hb.block _ (Array.getElem?_eq_some_iff.1 hx).1).trans hx
    refine (hit (w.heap.size + 1) V (fun i W => I i W ∧ W.heap[w.heap.size + 1]? = some (.loop (rc .ready none)) ∧ W.heap[w.heap.size]? = some (.deferred (some []))) (Nat.le_succ _) hbV
      (fun i W W' h hb => ⟨hIb i _ W W' hbV.size h.1 hb, (hb.block _ (Array.getElem?_eq_some_iff.1 hL).1).trans h.2.1, (hb.block _ (Array.getElem?_eq_some_iff.1 hD).1).trans h.2.2⟩) ?_ ⟨hIb 0 _ _ _ (Nat.le_refl _) h0 hbV, hL, hD⟩).mono ?_
    · rintro i W hi ⟨hI, hl, hd⟩
      have hy := run_yield (P := P) (args := encs i) hl (by rw [hrc]; exact hps i)
      rw [hrc] at hy
      refine ⟨fn, _, assign, body, hy, roundIn_of_wpIn trivial (hassign _ i W _ hI (Array.getElem?_eq_some_iff.1 hl).1 fun a' W0 hb0 hI0 hA0 => ⟨_, run_beginRound (keep hl hb0) (by rw [hrc]), ?_⟩)⟩
      have hl0 := keep hl hb0
      have hd0 := keep hd hb0
      obtain ⟨X, hX⟩ : ∃ X, W0.putObj (w.heap.size + 1) (.loop { rc .ready none with state := .busy }) = X := ⟨_, rfl⟩
      rw [hX]
      have hlX : X.heap[w.heap.size + 1]? = some (.loop { rc .ready none with state := .busy }) := hX ▸ World.putObj_heap_same (Array.getElem?_eq_some_iff.1 hl0).1
      have hoX : ∀ k, k ≠ w.heap.size + 1 → X.heap[k]? = W0.heap[k]? := fun k hk => hX ▸ World.putObj_heap_other (fun e => hk e)
      have hIX : I i X := hX ▸ hIp i W0 _ _ (by omega) hI0
      have hAX : A i a' X := hX ▸ hAp i a' W0 _ hA0
      refine wpIn_mono (hbody _ i a' X hi hIX hAX) ?_
      rintro e a3 Y ⟨rfl, hI3, hk⟩
      have hlY := hk.block _ _ (fun h => by have := hS _ h; omega) hlX
      have hr := run_endRound (P := P) none hlY
      obtain ⟨Z, hZ⟩ : ∃ Z, Y.putObj (w.heap.size + 1) (.loop { { rc .ready none with state := .busy } with state := if (none : Option Code).isNone then .ready else .done, pending := none }) = Z := ⟨_, rfl⟩
      rw [hZ] at hr
      have hlZ : Z.heap[w.heap.size + 1]? = some (.loop (rc .ready none)) := by
        rw [← hZ, World.putObj_heap_same (Array.getElem?_eq_some_iff.1 hlY).1, hrc]; rfl
      have hoZ : ∀ k, k ≠ w.heap.size + 1 → Z.heap[k]? = Y.heap[k]? := fun k hk => hZ ▸ World.putObj_heap_other (fun e => hk e)
      refine ⟨_, _, hr, rfl, ⟨hZ ▸ hIp _ Y _ _ (by omega) hI3, hlZ, ?_⟩, ?_⟩
      · rw [hoZ _ (by omega)]
        exact hk.block _ _ (fun h => by have := hS _ h; omega) ((hoX _ (by omega)).trans hd0)
      · refine ⟨?_, ?_, ?_, ?_, fun k o hk2 hx => ?_⟩
        · rw [← hZ]; exact hk.os.trans ((hX ▸ rfl : X.os = W0.os).trans hb0.os)
        · rw [← hZ]; exact hk.tape.trans ((hX ▸ rfl : X.tape = W0.tape).trans hb0.tape)
        · rw [← hZ]; exact hk.output.trans ((hX ▸ rfl : X.output = W0.output).trans hb0.output)
        · rw [← hZ, putObj_size]; have := hk.size; rw [← hX, putObj_size] at this; have := hb0.size; omega
        · by_cases e : k = w.heap.size + 1
          · subst e; rw [hlZ, ← hl, hx]
          · rw [hoZ k e]; exact hk.block k o hk2 ((hoX k e).trans (keep hx hb0))
    · rintro e W2 ⟨⟨v, rfl⟩, hI, hl, hd⟩
      have hr := run_endLoop (P := P) hl (by rw [hrc]; simp)
      refine ⟨none, _, by rw [hr, hrc], hdone _ _ (Nat.le_refl _) (hIp _ _ _ _ (by omega) hI) ((World.putObj_heap_other (by omega)).trans hd)⟩
set_option maxHeartbeats 4000000 in
theorem range_ret {n : Nat} {P : Program} {g : Operand} {ps : Array Tmp} {assign body : Code} {Q : Exit → Act → World → Prop} {a : Act} {w : World} {gf : Nat} {rcv lb : Array Value}
    (hg : a.eval g = .func (.func gf) rcv lb) (eg : ∀ args w, (callFunc gf args).run P w = .ok (.enter gf args) w) (m : Nat) (encs : Nat → Array Value) (hps : ∀ i, (encs i).size = ps.size) (S : Nat → Prop)
    (I : Nat → World → Prop) (hIb : ∀ i B W W', w.heap.size ≤ B → I i W → Below B W W' → I i W') (hIp : ∀ i W l o, w.heap.size ≤ l → I i W → I i (W.putObj l o))
    (hit : ∀ (l : Nat) (W1 : World) (J : Nat → World → Prop), w.heap.size ≤ l → Below w.heap.size w W1 → (∀ i W W', J i W → Below W1.heap.size W W' → J i W') →
      (∀ i W, i < m → J i W → YieldAt Fence.wide (n - 1 - 1) P l (encs i) W fun e W' => e = .returned (.bool true) ∧ J (i + 1) W' ∧ KeepP S W W') → (∀ W, J m W → YieldAt Fence.wide (n - 1 - 1) P l (encs m) W fun e W' => e = .returned (.bool false) ∧ J (m + 1) W' ∧ KeepP (fun b => S b ∨ b = l) W W') → J 0 W1 →
      CallsIn Fence.wide (n - 1) P gf (rcv ++ #[.func (.yield l) #[] #[]] ++ lb) W1 fun e W' => (∃ v, e = .returned v) ∧ J (m + 1) W')
    (h0 : I 0 w) (A : Nat → Act → World → Prop) (hAp : ∀ i a' W o, A i a' W → A i a' (W.putObj (w.heap.size + 1) o))
    (hassign : ∀ (l i : Nat) (W : World) (K : Act → World → Prop), I i W → w.heap.size + 1 < W.heap.size → (∀ a' W', Below W.heap.size W W' → I i W' → A i a' W' → K a' W') → assign.wpIn (Fence.wide.inRound l) (n - 1 - 1) P (Exit.then K fun _ _ _ => False) { tmps := (ps.zip (encs i)).foldl (fun t (p, v) => t.setIfInBounds p v) a.tmps, defers := [] } W)
    (hS : ∀ b, S b → b < w.heap.size)
    (hbody : ∀ (l i : Nat) (a' : Act) (W : World), i < m → I i W → A i a' W → body.wpIn (Fence.wide.inRound l) (n - 1 - 1) P (fun e _ W' => e = .normal ∧ I (i + 1) W' ∧ KeepP S W W') a' W)
    (hbodym : ∀ (l : Nat) (a' : Act) (W : World), I m W → A m a' W → body.wpIn (Fence.wide.inRound l) (n - 1 - 1) P (fun e _ W' => e = .ret ∧ I (m + 1) W' ∧ KeepP S W W') a' W)
    (hstop : ∀ (D : Nat) (W : World), w.heap.size ≤ D → I (m + 1) W → W.heap[D]? = some (.deferred (some [])) → Code.ret.wpIn Fence.wide n P Q { a with defers := { target := .collected D, args := #[] } :: a.defers } W) :
    (Code.rangeFunc g ps assign body).wpIn Fence.wide n P Q a w := by
  refine wpIn_rangeFunc fun fn _ => ?_
  obtain ⟨rc, hrc⟩ : ∃ rc : LoopState → Option Code → Loop, ∀ st pe, rc st pe = { state := st, pending := pe, fn, tmps := a.tmps, params := ps, assign, body, defers := w.heap.size } := ⟨_, fun _ _ => rfl⟩
  obtain ⟨V, hV⟩ : ∃ V, (w.alloc (.deferred (some []))).alloc (.loop (rc .ready none)) = V := ⟨_, rfl⟩
  have hbV : Below w.heap.size w V := hV ▸ ((Below.refl _ w).alloc (Nat.le_refl _) _).alloc (by simp) _
  have hL : V.heap[w.heap.size + 1]? = some (.loop (rc .ready none)) := by
    rw [← hV]; have := World.alloc_heap_new (w.alloc (.deferred (some []))) (.loop (rc .ready none)); rwa [World.size_alloc] at this
  have hD : V.heap[w.heap.size]? = some (.deferred (some [])) := by
    rw [← hV]; exact (Below.heap_alloc _ _ _ (by simp)).trans (World.alloc_heap_new w _)
  refine ⟨w.heap.size + 1, [{ target := .collected w.heap.size, args := #[] }], V, { target := .fn (.func gf) lb, args := rcv ++ #[.func (.yield (w.heap.size + 1)) #[] #[]] }, V, gf, rcv ++ #[.func (.yield (w.heap.size + 1)) #[] #[]] ++ lb, V, ?_, ?_, fun _ _ => trivial, ?_, fun h => by simp [Fence.wide] at h, ?_⟩
  · rw [← hV, hrc]; exact run_enterLoop_outer _ _ _ _ _
  · simp only [resolve, hg]
    simp [go_sem]
  · simp [invoke, go_sem, eg]
  · have keep : ∀ {A B : World} {k : Nat} {o : Obj}, A.heap[k]? = some o → Below A.heap.size A B → B.heap[k]? = some o := fun hx hb => (hb.block _ (Array.getElem?_eq_some_iff.1 hx).1).trans hx
    refine (hit (w.heap.size + 1) V (fun i W => I i W ∧ W.heap[w.heap.size + 1]? = some (.loop (if i ≤ m then rc .ready none else rc .done (some .ret))) ∧ W.heap[w.heap.size]? = some (.deferred (some []))) (Nat.le_succ _) hbV
      (fun i W W' h hb => ⟨hIb i _ W W' hbV.size h.1 hb, (hb.block _ (Array.getElem?_eq_some_iff.1 hL).1).trans h.2.1, (hb.block _ (Array.getElem?_eq_some_iff.1 hD).1).trans h.2.2⟩) ?_ ?_ ⟨hIb 0 _ _ _ (Nat.le_refl _) h0 hbV, by rw [if_pos (Nat.zero_le _)]; exact hL, hD⟩).mono ?_
    · rintro i W hi ⟨hI, hl, hd⟩
      rw [if_pos (show i ≤ m by omega)] at hl
      rw [if_pos (show i + 1 ≤ m by omega)]
      have hy := run_yield (P := P) (args := encs i) hl (by rw [hrc]; exact hps i)
      rw [hrc] at hy
      refine ⟨fn, _, assign, body, hy, roundIn_of_wpIn trivial (hassign _ i W _ hI (Array.getElem?_eq_some_iff.1 hl).1 fun a' W0 hb0 hI0 hA0 => ⟨_, run_beginRound (keep hl hb0) (by rw [hrc]), ?_⟩)⟩
      have hl0 := keep hl hb0
      have hd0 := keep hd hb0
      obtain ⟨X, hX⟩ : ∃ X, W0.putObj (w.heap.size + 1) (.loop { rc .ready none with state := .busy }) = X := ⟨_, rfl⟩
      rw [hX]
      have hlX : X.heap[w.heap.size + 1]? = some (.loop { rc .ready none with state := .busy }) := hX ▸ World.putObj_heap_same (Array.getElem?_eq_some_iff.1 hl0).1
      have hoX : ∀ k, k ≠ w.heap.size + 1 → X.heap[k]? = W0.heap[k]? := fun k hk => hX ▸ World.putObj_heap_other (fun e => hk e)
      have hIX : I i X := hX ▸ hIp i W0 _ _ (by omega) hI0
      have hAX : A i a' X := hX ▸ hAp i a' W0 _ hA0
      refine wpIn_mono (hbody _ i a' X hi hIX hAX) ?_
      rintro e a3 Y ⟨rfl, hI3, hk⟩
      have hlY := hk.block _ _ (fun h => by have := hS _ h; omega) hlX
      have hr := run_endRound (P := P) none hlY
      obtain ⟨Z, hZ⟩ : ∃ Z, Y.putObj (w.heap.size + 1) (.loop { { rc .ready none with state := .busy } with state := if (none : Option Code).isNone then .ready else .done, pending := none }) = Z := ⟨_, rfl⟩
      rw [hZ] at hr
      have hlZ : Z.heap[w.heap.size + 1]? = some (.loop (rc .ready none)) := by
        rw [← hZ, World.putObj_heap_same (Array.getElem?_eq_some_iff.1 hlY).1, hrc]; rfl
      have hoZ : ∀ k, k ≠ w.heap.size + 1 → Z.heap[k]? = Y.heap[k]? := fun k hk => hZ ▸ World.putObj_heap_other (fun e => hk e)
      refine ⟨_, _, hr, rfl, ⟨hZ ▸ hIp _ Y _ _ (by omega) hI3, hlZ, ?_⟩, ?_⟩
      · rw [hoZ _ (by omega)]
        exact hk.block _ _ (fun h => by have := hS _ h; omega) ((hoX _ (by omega)).trans hd0)
      · refine ⟨?_, ?_, ?_, ?_, fun k o hk2 hx => ?_⟩
        · rw [← hZ]; exact hk.os.trans ((hX ▸ rfl : X.os = W0.os).trans hb0.os)
        · rw [← hZ]; exact hk.tape.trans ((hX ▸ rfl : X.tape = W0.tape).trans hb0.tape)
        · rw [← hZ]; exact hk.output.trans ((hX ▸ rfl : X.output = W0.output).trans hb0.output)
        · rw [← hZ, putObj_size]; have := hk.size; rw [← hX, putObj_size] at this; have := hb0.size; omega
        · by_cases e : k = w.heap.size + 1
          · subst e; rw [hlZ, ← hl, hx]
          · rw [hoZ k e]; exact hk.block k o hk2 ((hoX k e).trans (keep hx hb0))
    · rintro W ⟨hI, hl, hd⟩
      rw [if_pos (Nat.le_refl m)] at hl
      rw [if_neg (show ¬ m + 1 ≤ m by omega)]
      have hy := run_yield (P := P) (args := encs m) hl (by rw [hrc]; exact hps m)
      rw [hrc] at hy
      refine ⟨fn, _, assign, body, hy, roundIn_of_wpIn trivial (hassign _ m W _ hI (Array.getElem?_eq_some_iff.1 hl).1 fun a' W0 hb0 hI0 hA0 => ⟨_, run_beginRound (keep hl hb0) (by rw [hrc]), ?_⟩)⟩
      have hl0 := keep hl hb0
      have hd0 := keep hd hb0
      obtain ⟨X, hX⟩ : ∃ X, W0.putObj (w.heap.size + 1) (.loop { rc .ready none with state := .busy }) = X := ⟨_, rfl⟩
      rw [hX]
      have hlX : X.heap[w.heap.size + 1]? = some (.loop { rc .ready none with state := .busy }) := hX ▸ World.putObj_heap_same (Array.getElem?_eq_some_iff.1 hl0).1
      have hoX : ∀ k, k ≠ w.heap.size + 1 → X.heap[k]? = W0.heap[k]? := fun k hk => hX ▸ World.putObj_heap_other (fun e => hk e)
      have hIX : I m X := hX ▸ hIp m W0 _ _ (by omega) hI0
      have hAX : A m a' X := hX ▸ hAp m a' W0 _ hA0
      refine wpIn_mono (hbodym _ a' X hIX hAX) ?_
      rintro e a3 Y ⟨rfl, hI3, hk⟩
      have hlY := hk.block _ _ (fun h => by have := hS _ h; omega) hlX
      have hr := run_endRound (P := P) (some .ret) hlY
      obtain ⟨Z, hZ⟩ : ∃ Z, Y.putObj (w.heap.size + 1) (.loop { { rc .ready none with state := .busy } with state := if (some Code.ret : Option Code).isNone then .ready else .done, pending := some .ret }) = Z := ⟨_, rfl⟩
      rw [hZ] at hr
      have hlZ : Z.heap[w.heap.size + 1]? = some (.loop (rc .done (some .ret))) := by
        rw [← hZ, World.putObj_heap_same (Array.getElem?_eq_some_iff.1 hlY).1, hrc, hrc]; rfl
      have hoZ : ∀ k, k ≠ w.heap.size + 1 → Z.heap[k]? = Y.heap[k]? := fun k hk => hZ ▸ World.putObj_heap_other (fun e => hk e)
      refine ⟨_, _, hr, rfl, ⟨hZ ▸ hIp _ Y _ _ (by omega) hI3, hlZ, ?_⟩, ?_⟩
      · rw [hoZ _ (by omega)]
        exact hk.block _ _ (fun h => by have := hS _ h; omega) ((hoX _ (by omega)).trans hd0)
      · refine ⟨?_, ?_, ?_, ?_, fun k o hk2 hx => ?_⟩
        · rw [← hZ]; exact hk.os.trans ((hX ▸ rfl : X.os = W0.os).trans hb0.os)
        · rw [← hZ]; exact hk.tape.trans ((hX ▸ rfl : X.tape = W0.tape).trans hb0.tape)
        · rw [← hZ]; exact hk.output.trans ((hX ▸ rfl : X.output = W0.output).trans hb0.output)
        · rw [← hZ, putObj_size]; have := hk.size; rw [← hX, putObj_size] at this; have := hb0.size; omega
        · have e : k ≠ w.heap.size + 1 := fun e => hk2 (.inr e)
          rw [hoZ k e]; exact hk.block k o (fun h => hk2 (.inl h)) ((hoX k e).trans (keep hx hb0))
    · rintro e W2 ⟨⟨v, rfl⟩, hI, hl, hd⟩
      rw [if_neg (show ¬ m + 1 ≤ m by omega)] at hl
      have hr := run_endLoop (P := P) hl (by rw [hrc]; simp)
      refine ⟨some .ret, _, by rw [hr, hrc], hstop _ _ (Nat.le_refl _) (hIp _ _ _ _ (by omega) hI) ((World.putObj_heap_other (by omega)).trans hd)⟩
end Go.Proofs.Ytolnpbpeifpbjaa
