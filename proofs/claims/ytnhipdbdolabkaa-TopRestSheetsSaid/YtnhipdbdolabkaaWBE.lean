/- Part of the proof: what the claim leans on. -/
import Derived.Test.YtnhipdbdolabkaaWBB
set_option linter.unusedSimpArgs false
set_option linter.unusedVariables false
namespace Go.Proofs.Ytnhipdbdolabkaa
open Go.RowKit
set_option maxRecDepth 100000 in
set_option maxHeartbeats 40000000 in
theorem rest_main (sv : Nat → Int) (v0 v1 : Int) (p : Tp) (os : Nat → To) (xs : Nat → List Int × Int) (acl all_ gf : List Int) (at_ : Nat) (dn : Int) (w : World) (gv0 : 0 ≤ v0 ∧ v0 ≤ 255) (gv1 : 0 ≤ v1 ∧ v1 ≤ 255) (hpb : ∀ W, Calls Try.prog 7 #[.agg #[.int .u8 ((sv 0)), .int .u8 ((sv 1)), .int .u8 ((sv 2)), .int .u8 ((sv 3)), .int .u8 ((sv 4)), .int .u8 ((sv 5)), .int .u8 ((sv 6)), .int .u8 ((sv 7)), .int .u8 ((sv 8)), .int .u8 ((sv 9)), .int .u8 ((sv 10)), .int .u8 ((sv 11)), .int .u8 ((sv 12)), .int .u8 ((sv 13)), .int .u8 ((sv 14)), .int .u8 ((sv 15)), .int .u8 ((sv 16)), .int .u8 ((sv 17)), .int .u8 ((sv 18)), .int .u8 ((sv 19)), .int .u8 ((sv 20)), .int .u8 ((sv 21)), .int .u8 ((sv 22)), .int .u8 ((sv 23)), .int .u8 ((sv 24)), .int .u8 ((sv 25)), .int .u8 ((sv 26)), .int .u8 ((sv 27)), .int .u8 ((sv 28)), .int .u8 ((sv 29)), .int .u8 ((sv 30))]] W (fun e w' => ∃ v1 v2 v3, e = .returned (.tuple #[v1, v2, v3, .bool true]) ∧ IsG (acl) v2 w' ∧ IsG (all_) v3 w' ∧ Below W.heap.size W w')) (hrun : ∀ W a c, Ii W a 3 c (all_) → Calls Try.prog 8 #[.agg #[.int .u8 ((sv 0)), .int .u8 ((sv 1)), .int .u8 ((sv 2)), .int .u8 ((sv 3)), .int .u8 ((sv 4)), .int .u8 ((sv 5)), .int .u8 ((sv 6)), .int .u8 ((sv 7)), .int .u8 ((sv 8)), .int .u8 ((sv 9)), .int .u8 ((sv 10)), .int .u8 ((sv 11)), .int .u8 ((sv 12)), .int .u8 ((sv 13)), .int .u8 ((sv 14)), .int .u8 ((sv 15)), .int .u8 ((sv 16)), .int .u8 ((sv 17)), .int .u8 ((sv 18)), .int .u8 ((sv 19)), .int .u8 ((sv 20)), .int .u8 ((sv 21)), .int .u8 ((sv 22)), .int .u8 ((sv 23)), .int .u8 ((sv 24)), .int .u8 ((sv 25)), .int .u8 ((sv 26)), .int .u8 ((sv 27)), .int .u8 ((sv 28)), .int .u8 ((sv 29)), .int .u8 ((sv 30))], .slice a 3 c] W (fun e w' => ∃ v2 v3, e = .returned (.tuple #[.agg #[.int .i64 p.wide, .int .i64 p.tlo, .int .i64 p.thi, .int .i64 p.webs], v2, v3]) ∧ IsOrdS 35 3 (os) v2 w' ∧ IsPlanS 35 (2) (xs) v3 w' ∧ Below W.heap.size W w')) (hp : TpIn p) (ho : ∀ i, i < 3 → ToIn (os i)) (hg : GetOk p os 2 xs) (hwr : wrF os (gotK xs 2) 3 0 = -1) (hat : at_ < 2) (hdn : 0 ≤ dn ∧ dn ≤ (xs at_).2) (hgf : addK (gotK xs at_) (xs at_).1 dn 3 = gf) (hvt : (v0 % 2) = (at_ : Int)) (hvd : (v1 % ((xs at_).2 + 1)) = dn) (hacl : ∀ k, k < 3 → 100 ≤ elT acl k ∧ elT acl k ≤ 5000) (hall : ∀ k, k < 3 → (os k).wd = elT all_ k) (hlaw : ∀ k, k < 3 → (((elT (xs at_).1 k) * (shF (elT acl k) dn)) + ((elT (xs at_).1 k) * (shF (elT acl k) ((xs at_).2 - dn)))) ≤ ((elT (xs at_).1 k) * (shF (elT acl k) (xs at_).2)) ∧ (((elT (xs at_).1 k) * (shF (elT acl k) (xs at_).2)) - (elT (xs at_).1 k)) ≤ (((elT (xs at_).1 k) * (shF (elT acl k) dn)) + ((elT (xs at_).1 k) * (shF (elT acl k) ((xs at_).2 - dn))))) (hhas : ∀ k, k < 3 → (osL os gf k).lo ≤ gvF xs at_ dn k (2 - (at_ + 1)) ∧ gvF xs at_ dn k (2 - (at_ + 1)) ≤ (osL os gf k).hi) :
  Calls Try.prog 6 #[.agg #[.int .u8 ((sv 0)), .int .u8 ((sv 1)), .int .u8 ((sv 2)), .int .u8 ((sv 3)), .int .u8 ((sv 4)), .int .u8 ((sv 5)), .int .u8 ((sv 6)), .int .u8 ((sv 7)), .int .u8 ((sv 8)), .int .u8 ((sv 9)), .int .u8 ((sv 10)), .int .u8 ((sv 11)), .int .u8 ((sv 12)), .int .u8 ((sv 13)), .int .u8 ((sv 14)), .int .u8 ((sv 15)), .int .u8 ((sv 16)), .int .u8 ((sv 17)), .int .u8 ((sv 18)), .int .u8 ((sv 19)), .int .u8 ((sv 20)), .int .u8 ((sv 21)), .int .u8 ((sv 22)), .int .u8 ((sv 23)), .int .u8 ((sv 24)), .int .u8 ((sv 25)), .int .u8 ((sv 26)), .int .u8 ((sv 27)), .int .u8 ((sv 28)), .int .u8 ((sv 29)), .int .u8 ((sv 30))], .agg #[.int .u8 v0, .int .u8 v1]] w (fun e w' => e = .returned (.bool true) ∧ Below w.heap.size w w') := by
 have hrn_ := hg.rn at_ hat
 refine calls_fr Try.func6 Try.ntmps6 rfl rfl fun g hg => ?_
 have k0 : g 0 = .agg #[.int .u8 ((sv 0)), .int .u8 ((sv 1)), .int .u8 ((sv 2)), .int .u8 ((sv 3)), .int .u8 ((sv 4)), .int .u8 ((sv 5)), .int .u8 ((sv 6)), .int .u8 ((sv 7)), .int .u8 ((sv 8)), .int .u8 ((sv 9)), .int .u8 ((sv 10)), .int .u8 ((sv 11)), .int .u8 ((sv 12)), .int .u8 ((sv 13)), .int .u8 ((sv 14)), .int .u8 ((sv 15)), .int .u8 ((sv 16)), .int .u8 ((sv 17)), .int .u8 ((sv 18)), .int .u8 ((sv 19)), .int .u8 ((sv 20)), .int .u8 ((sv 21)), .int .u8 ((sv 22)), .int .u8 ((sv 23)), .int .u8 ((sv 24)), .int .u8 ((sv 25)), .int .u8 ((sv 26)), .int .u8 ((sv 27)), .int .u8 ((sv 28)), .int .u8 ((sv 29)), .int .u8 ((sv 30))] := hg 0
 have k1 : g 1 = .agg #[.int .u8 v0, .int .u8 v1] := hg 1
 clear hg
 have fB0 : Below w.heap.size w w := Below.refl _ _
 refine wp_seq_k fun K1 hK1 => ?_
 refine region_dk 3 [(2, 0), (3, 1), (4, 2)] [[], [], []] (rel [bx 0 #[.int .u8 ((sv 0)), .int .u8 ((sv 1)), .int .u8 ((sv 2)), .int .u8 ((sv 3)), .int .u8 ((sv 4)), .int .u8 ((sv 5)), .int .u8 ((sv 6)), .int .u8 ((sv 7)), .int .u8 ((sv 8)), .int .u8 ((sv 9)), .int .u8 ((sv 10)), .int .u8 ((sv 11)), .int .u8 ((sv 12)), .int .u8 ((sv 13)), .int .u8 ((sv 14)), .int .u8 ((sv 15)), .int .u8 ((sv 16)), .int .u8 ((sv 17)), .int .u8 ((sv 18)), .int .u8 ((sv 19)), .int .u8 ((sv 20)), .int .u8 ((sv 21)), .int .u8 ((sv 22)), .int .u8 ((sv 23)), .int .u8 ((sv 24)), .int .u8 ((sv 25)), .int .u8 ((sv 26)), .int .u8 ((sv 27)), .int .u8 ((sv 28)), .int .u8 ((sv 29)), .int .u8 ((sv 30))] 27,
   bx 1 #[.int .u8 v0, .int .u8 v1] 73,
   is (.bool false)])
  ⟨bx_k, bx_k, is_k, trivial⟩
  ⟨fun f s W hW n q r u m => opb rfl rfl (by simp [go_sem, m.e 0 k0]),
  fun f s W hW n q r u m => opb rfl rfl (by simp [go_sem, m.e 1 k1]),
  fun f s W hW n q r u m => opv rfl rfl (by simp [go_sem]) rfl, trivial⟩ ?_
 intro f1 s1 W1 hB1 g1 hg1
 have fB1 := hB1.f fB0
 have z1 := hB1.below.size
 obtain ⟨r1_0, br1_0⟩ := hB1.is 0
 have lr1_0 := hB1.lr 0 br1_0
 obtain ⟨r1_1, br1_1⟩ := hB1.is 1
 have lr1_1 := hB1.lr 1 br1_1
 have ne1_0_1 := hB1.nb 0 1
 refine hK1 _ _ ?_
 have k1_2 := kt hg1 2 r1_0
 have k1_3 := kt hg1 3 r1_1
 have k1_4 := kt hg1 4 (hB1.is 2)
 clear fB0 hB1 hK1 hg1 r1_0 r1_1
 refine wp_seq_k fun K2 hK2 => ?_
 refine region_dk 11 [(25, 0), (26, 1), (24, 2), (27, 3), (28, 4), (29, 5), (30, 6), (5, 7), (6, 8), (7, 9), (8, 10)] [[], [0], [0, 1], [0, 1, 2], [0, 1, 2], [0, 1, 2], [0, 1, 2], [0, 1, 2, 3], [0, 1, 2, 3, 4, 7], [0, 1, 2, 3, 4, 5, 7, 8], [0, 1, 2, 3, 4, 5, 6, 7, 8, 9]] (rel [is (.agg #[.int .u8 ((sv 0)), .int .u8 ((sv 1)), .int .u8 ((sv 2)), .int .u8 ((sv 3)), .int .u8 ((sv 4)), .int .u8 ((sv 5)), .int .u8 ((sv 6)), .int .u8 ((sv 7)), .int .u8 ((sv 8)), .int .u8 ((sv 9)), .int .u8 ((sv 10)), .int .u8 ((sv 11)), .int .u8 ((sv 12)), .int .u8 ((sv 13)), .int .u8 ((sv 14)), .int .u8 ((sv 15)), .int .u8 ((sv 16)), .int .u8 ((sv 17)), .int .u8 ((sv 18)), .int .u8 ((sv 19)), .int .u8 ((sv 20)), .int .u8 ((sv 21)), .int .u8 ((sv 22)), .int .u8 ((sv 23)), .int .u8 ((sv 24)), .int .u8 ((sv 25)), .int .u8 ((sv 26)), .int .u8 ((sv 27)), .int .u8 ((sv 28)), .int .u8 ((sv 29)), .int .u8 ((sv 30))]),
   ab fun v W => ∃ x0 x1 x2, v = .tuple #[x0, x1, x2, .bool true] ∧ IsAny2 x0 W ∧ IsG (acl) x1 W ∧ IsG (all_) x2 W,
   ab fun v W => ∃ x0 x1 x2, v = .tuple #[x0, x1, x2, .bool true] ∧ IsAny2 x0 W ∧ IsG (acl) x1 W ∧ IsG (all_) x2 W,
   ab fun v W => IsAny2 v W,
   ab fun v W => IsG (acl) v W,
   ab fun v W => IsG (all_) v W,
   is (.bool true),
   ab fun v W => IsAny2 v W,
   ab fun v W => IsG (acl) v W,
   ab fun v W => IsG (all_) v W,
   is (.bool true)])
  ⟨is_k, ab_k fun v W W' hb ⟨x0, x1, x2, e, h0, h1, h2⟩ => ⟨x0, x1, x2, e, h0, (h1.below hb), (h2.below hb)⟩, ab_k fun v W W' hb ⟨x0, x1, x2, e, h0, h1, h2⟩ => ⟨x0, x1, x2, e, h0, (h1.below hb), (h2.below hb)⟩, ab_k fun v W W' hb h => h, ab_k fun v W W' hb h => (h.below hb), ab_k fun v W W' hb h => (h.below hb), is_k, ab_k fun v W W' hb h => h, ab_k fun v W W' hb h => (h.below hb), ab_k fun v W W' hb h => (h.below hb), is_k, trivial⟩
  ⟨fun f s W hW n q r u m => opl rfl rfl rfl (m.v 2 k1_2) (blk_below br1_0 hW) Try.underlying27 rfl (by kernel_rfl) rfl,
  fun f s W hW n q r u m => opDo_call rfl rfl (by simp [go_sem, m.e 25 (n 0 rfl)]) (hpb W) ((fun e W' h => by obtain ⟨v1, v2, v3, e1, h2, h3, h4⟩ := h; exact ⟨_, e1, h4, ⟨v1, v2, v3, rfl, trivial, h2, h3⟩⟩)),
  fun f s W hW n q r u m => opv (v := (f 1)) rfl rfl (by simp [go_sem, (m.at' 26 rfl : u.tmps[26]?.getD undef = f 1)] <;> rfl) (n 1 rfl),
  fun f s W hW n q r u m => by obtain ⟨x2_0, x2_1, x2_2, d2, p2_0, p2_1, p2_2⟩ := (n 2 rfl); exact opv (v := x2_0) rfl rfl (by simp [go_sem, m.e 24 d2]) p2_0,
  fun f s W hW n q r u m => by obtain ⟨x2_0, x2_1, x2_2, d2, p2_0, p2_1, p2_2⟩ := (n 2 rfl); exact opv (v := x2_1) rfl rfl (by simp [go_sem, m.e 24 d2]) p2_1,
  fun f s W hW n q r u m => by obtain ⟨x2_0, x2_1, x2_2, d2, p2_0, p2_1, p2_2⟩ := (n 2 rfl); exact opv (v := x2_2) rfl rfl (by simp [go_sem, m.e 24 d2]) p2_2,
  fun f s W hW n q r u m => by obtain ⟨x2_0, x2_1, x2_2, d2, p2_0, p2_1, p2_2⟩ := (n 2 rfl); exact opv rfl rfl (by simp [go_sem, m.e 24 d2]) rfl,
  fun f s W hW n q r u m => opv (v := (f 3)) rfl rfl (by simp [go_sem, (m.at' 27 rfl : u.tmps[27]?.getD undef = f 3)] <;> rfl) (n 3 rfl),
  fun f s W hW n q r u m => opv (v := (f 4)) rfl rfl (by simp [go_sem, (m.at' 28 rfl : u.tmps[28]?.getD undef = f 4)] <;> rfl) (n 4 rfl),
  fun f s W hW n q r u m => opv (v := (f 5)) rfl rfl (by simp [go_sem, (m.at' 29 rfl : u.tmps[29]?.getD undef = f 5)] <;> rfl) (n 5 rfl),
  fun f s W hW n q r u m => opv rfl rfl (by simp [go_sem, m.e 30 (n 6 rfl)]) rfl, trivial⟩ ?_
 intro f2 s2 W2 hB2 g2 hg2
 have fB2 := hB2.f fB1
 have z2 := hB2.below.size
 have b2_0 := hB2.b br1_0
 have b2_1 := hB2.b br1_1
 obtain ⟨g63', c64', r2_8, q65', q66'⟩ := hB2.is 8
 obtain ⟨g67', c68', r2_9, q69', q70'⟩ := hB2.is 9
 refine hK2 _ _ ?_
 have k2_2 := kt hg2 2 k1_2
 have k2_3 := kt hg2 3 k1_3
 have k2_4 := kt hg2 4 k1_4
 have k2_6 := kt hg2 6 r2_8
 have k2_7 := kt hg2 7 r2_9
 have k2_8 := kt hg2 8 (hB2.is 10)
 clear br1_0 br1_1 fB1 hB2 hK2 hg2 k1_2 k1_3 k1_4 r2_8 r2_9
 refine wp_seq_k fun K3 hK3 => ?_
 refine wp_seq_k fun K4 hK4 => ?_
 refine region_dk 2 [(31, 0), (32, 1)] [[], [0]] (rel [is (.bool true),
   is (.bool false)])
  ⟨is_k, is_k, trivial⟩
  ⟨fun f s W hW n q r u m => opv rfl rfl (by simp [go_sem, m.e 8 k2_8]) rfl,
  fun f s W hW n q r u m => opv rfl rfl (by simp [go_sem, m.e 31 (n 0 rfl)]) rfl, trivial⟩ ?_
 clear k2_8
 intro f3 s3 W3 hB3 g3 hg3
 have fB3 := hB3.f fB2
 have z3 := hB3.below.size
 have b3_0 := hB3.b b2_0
 have b3_1 := hB3.b b2_1
 have q71' := (q65'.bw hB3)
 have q72' := (hB3.lt q66')
 have q73' := (q69'.bw hB3)
 have q74' := (hB3.lt q70')
 refine hK4 _ _ ?_
 have k3_2 := kt hg3 2 k2_2
 have k3_3 := kt hg3 3 k2_3
 have k3_4 := kt hg3 4 k2_4
 have k3_6 := kt hg3 6 k2_6
 have k3_7 := kt hg3 7 k2_7
 have k3_32 := kt hg3 32 (hB3.is 1)
 clear b2_0 b2_1 fB2 hB3 hK4 hg3 k2_2 k2_3 k2_4 k2_6 k2_7
 refine wp_cond_false ((fr_eval rfl).trans k3_32) ?_
 clear k3_32
 refine wp_skip ?_
 refine hK3 _ _ ?_
 clear hK3
 refine wp_seq_k fun K6 hK6 => ?_
 refine region_dk 8 [(34, 0), (35, 1), (36, 2), (33, 3), (37, 4), (38, 5), (39, 6), (9, 7), (10, 9), (11, 10)] [[], [], [0, 1], [0, 1, 2], [0, 1, 2, 3], [0, 1, 2, 3], [0, 1, 2, 3], [], [0, 1, 2, 3, 4, 7], [0, 1, 2, 3, 4, 5, 7, 8], [0, 1, 2, 3, 4, 5, 6, 7, 8, 9]] (rel [is (.agg #[.int .u8 ((sv 0)), .int .u8 ((sv 1)), .int .u8 ((sv 2)), .int .u8 ((sv 3)), .int .u8 ((sv 4)), .int .u8 ((sv 5)), .int .u8 ((sv 6)), .int .u8 ((sv 7)), .int .u8 ((sv 8)), .int .u8 ((sv 9)), .int .u8 ((sv 10)), .int .u8 ((sv 11)), .int .u8 ((sv 12)), .int .u8 ((sv 13)), .int .u8 ((sv 14)), .int .u8 ((sv 15)), .int .u8 ((sv 16)), .int .u8 ((sv 17)), .int .u8 ((sv 18)), .int .u8 ((sv 19)), .int .u8 ((sv 20)), .int .u8 ((sv 21)), .int .u8 ((sv 22)), .int .u8 ((sv 23)), .int .u8 ((sv 24)), .int .u8 ((sv 25)), .int .u8 ((sv 26)), .int .u8 ((sv 27)), .int .u8 ((sv 28)), .int .u8 ((sv 29)), .int .u8 ((sv 30))]),
   is (.slice (some ⟨g67', 0, none⟩) (3) (c68')),
   ab fun v W => ∃ x1 x2, v = .tuple #[.agg #[.int .i64 p.wide, .int .i64 p.tlo, .int .i64 p.thi, .int .i64 p.webs], x1, x2] ∧ IsOrdS 35 3 (os) x1 W ∧ IsPlanS 35 (2) (xs) x2 W,
   ab fun v W => ∃ x1 x2, v = .tuple #[.agg #[.int .i64 p.wide, .int .i64 p.tlo, .int .i64 p.thi, .int .i64 p.webs], x1, x2] ∧ IsOrdS 35 3 (os) x1 W ∧ IsPlanS 35 (2) (xs) x2 W,
   is (.agg #[.int .i64 p.wide, .int .i64 p.tlo, .int .i64 p.thi, .int .i64 p.webs]),
   ab fun v W => IsOrdS 35 3 (os) v W,
   ab fun v W => IsPlanS 35 (2) (xs) v W,
   bx 7 #[.int .i64 0, .int .i64 0, .int .i64 0, .int .i64 0] 35])
  ⟨is_k, is_k, ab_k fun v W W' hb ⟨x1, x2, e, h1, h2⟩ => ⟨x1, x2, e, (h1.below hb), (h2.below hb)⟩, ab_k fun v W W' hb ⟨x1, x2, e, h1, h2⟩ => ⟨x1, x2, e, (h1.below hb), (h2.below hb)⟩, is_k, ab_k fun v W W' hb h => (h.below hb), ab_k fun v W W' hb h => (h.below hb), bx_k, trivial⟩
  ⟨fun f s W hW n q r u m => opl rfl rfl rfl (m.v 2 k3_2) (blk_below b3_0 hW) Try.underlying27 rfl (by kernel_rfl) rfl,
  fun f s W hW n q r u m => opv rfl rfl (by simp [go_sem, m.e 7 k3_7]) rfl,
  fun f s W hW n q r u m => opDo_call (args := #[.agg #[.int .u8 ((sv 0)), .int .u8 ((sv 1)), .int .u8 ((sv 2)), .int .u8 ((sv 3)), .int .u8 ((sv 4)), .int .u8 ((sv 5)), .int .u8 ((sv 6)), .int .u8 ((sv 7)), .int .u8 ((sv 8)), .int .u8 ((sv 9)), .int .u8 ((sv 10)), .int .u8 ((sv 11)), .int .u8 ((sv 12)), .int .u8 ((sv 13)), .int .u8 ((sv 14)), .int .u8 ((sv 15)), .int .u8 ((sv 16)), .int .u8 ((sv 17)), .int .u8 ((sv 18)), .int .u8 ((sv 19)), .int .u8 ((sv 20)), .int .u8 ((sv 21)), .int .u8 ((sv 22)), .int .u8 ((sv 23)), .int .u8 ((sv 24)), .int .u8 ((sv 25)), .int .u8 ((sv 26)), .int .u8 ((sv 27)), .int .u8 ((sv 28)), .int .u8 ((sv 29)), .int .u8 ((sv 30))], .slice (some ⟨g67', 0, none⟩) (3) (c68')]) rfl rfl (by simp [go_sem, m.e 34 (n 0 rfl), m.e 35 (n 1 rfl)]) (hrun W _ _ ((q73'.below hW (Nat.le_refl _)))) ((fun e W' h => by obtain ⟨v2, v3, e1, h2, h3, h4⟩ := h; exact ⟨_, e1, h4, ⟨v2, v3, rfl, h2, h3⟩⟩)),
  fun f s W hW n q r u m => opv (v := (f 2)) rfl rfl (by simp [go_sem, (m.at' 36 rfl : u.tmps[36]?.getD undef = f 2)] <;> rfl) (n 2 rfl),
  fun f s W hW n q r u m => by obtain ⟨x3_1, x3_2, d3, p3_1, p3_2⟩ := (n 3 rfl); exact opv rfl rfl (by simp [go_sem, m.e 33 d3]) rfl,
  fun f s W hW n q r u m => by obtain ⟨x3_1, x3_2, d3, p3_1, p3_2⟩ := (n 3 rfl); exact opv (v := x3_1) rfl rfl (by simp [go_sem, m.e 33 d3]) p3_1,
  fun f s W hW n q r u m => by obtain ⟨x3_1, x3_2, d3, p3_1, p3_2⟩ := (n 3 rfl); exact opv (v := x3_2) rfl rfl (by simp [go_sem, m.e 33 d3]) p3_2,
  fun f s W hW n q r u m => opb rfl rfl (by simp [go_sem]), trivial⟩ ?_
 clear k3_2
 intro f4 s4 W4 hB4 g4 hg4
 have fB4 := hB4.f fB3
 have z4 := hB4.below.size
 have b4_0 := hB4.b b3_0
 have b4_1 := hB4.b b3_1
 have q75' := (q71'.bw hB4)
 have q76' := (hB4.lt q72')
 have q77' := (q73'.bw hB4)
 have q78' := (hB4.lt q74')
 obtain ⟨g79', c80', r4_5, q81'⟩ := hB4.is 5
 obtain ⟨a82', c83', b84', o85', ad86', cp87', r4_6, q90', q89', q88'⟩ := hB4.is 6
 obtain ⟨r4_7, br4_7⟩ := hB4.is 7
 have lr4_7 := hB4.lr 7 br4_7
 have k4_3 := kt hg4 3 k3_3
 have k4_4 := kt hg4 4 k3_4
 have k4_6 := kt hg4 6 k3_6
 have k4_7 := kt hg4 7 k3_7
 have k4_37 := kt hg4 37 (hB4.is 4)
 have k4_38 := kt hg4 38 r4_5
 have k4_39 := kt hg4 39 r4_6
 have k4_9 := kt hg4 9 r4_7
 obtain ⟨W5, hW5⟩ : ∃ W', W' = W4.setRow (s4 7) #[.int .i64 p.wide, .int .i64 p.tlo, .int .i64 p.thi, .int .i64 p.webs] := ⟨_, rfl⟩
 refine tail_skip (o := _) rfl ⟨rfl, rfl⟩ (run_seg hW5 (fr_ev k4_9) (fr_ev k4_37) br4_7 rfl rfl rfl rfl) ?_
 obtain ⟨fB5, nb5, ot5, z5⟩ := seg_facts hW5 fB4 br4_7 (by omega)
 clear hW5
 have b5_0 := ot5 _ _ (by omega) b4_0
 have b5_1 := ot5 _ _ (by omega) b4_1
 have q91' := (q75'.other ot5 q76' (by omega) z5)
 have q92' := Nat.lt_of_lt_of_le q76' z5
 have q93' := (q77'.other ot5 q78' (by omega) z5)
 have q94' := Nat.lt_of_lt_of_le q78' z5
 have q95' := q81'.other ot5 (br4_7) z5
 have q96' := q88'.other ot5 (br4_7) z5
 have q97' := q89'
 have q98' := q90'
 refine tail_value (o := _) rfl rfl rfl (v := .slice (some ⟨g79', 0, none⟩) (3) (c80')) (by simp [go_sem, frv 217 k4_38]) ?_
 generalize hg6 : upd g4 10 (.slice (some ⟨g79', 0, none⟩) (3) (c80')) = g6
 have k6_3 := ku hg6 3 k4_3
 have k6_4 := ku hg6 4 k4_4
 have k6_6 := ku hg6 6 k4_6
 have k6_7 := ku hg6 7 k4_7
 have k6_39 := ku hg6 39 k4_39
 have k6_9 := ku hg6 9 k4_9
 have k6_10 := kt hg6 10 (upd_same _ _ _)
 refine tail_value (o := _) rfl rfl rfl (v := .slice (a82') (2) (c83')) (by simp [go_sem, frv 217 k6_39]) ?_
 generalize hg7 : upd g6 11 (.slice (a82') (2) (c83')) = g7
 have k7_3 := ku hg7 3 k6_3
 have k7_4 := ku hg7 4 k6_4
 have k7_6 := ku hg7 6 k6_6
 have k7_7 := ku hg7 7 k6_7
 have k7_9 := ku hg7 9 k6_9
 have k7_10 := ku hg7 10 k6_10
 have k7_11 := kt hg7 11 (upd_same _ _ _)
 refine wpOps_end ?_
 refine hK6 _ _ ?_
 clear b3_0 b3_1 b4_0 b4_1 br4_7 fB3 fB4 hB4 hK6 hg4 hg6 hg7 k3_3 k3_4 k3_6 k3_7 k4_3 k4_37 k4_38 k4_39 k4_4 k4_6 k4_7 k4_9 k6_10 k6_3 k6_39 k6_4 k6_6 k6_7 k6_9 ot5 r4_5 r4_6 r4_7
 refine wp_seq_k fun K7 hK7 => ?_
 refine region_dk 7 [(40, 0), (41, 1), (42, 2), (43, 3), (44, 4), (45, 5), (12, 6)] [[], [0], [0, 1], [], [3], [0, 1, 2, 3, 4], [0, 1, 2, 3, 4, 5]] (rel [is (.pointer (some ⟨(s1 1), 0, none⟩)),
   is (.int .u8 v0),
   is (.int .i64 v0),
   is (.slice (a82') (2) (c83')),
   is (.int .i64 2),
   is (.int .i64 ((at_ : Int))),
   is (.int .i64 ((at_ : Int)))])
  ⟨is_k, is_k, is_k, is_k, is_k, is_k, is_k, trivial⟩
  ⟨fun f s W hW n q r u m => opv rfl rfl (by simp [go_sem, m.e 3 k7_3]) rfl,
  fun f s W hW n q r u m => opv rfl rfl (by simp [go_sem, m.e 40 (n 0 rfl), cb b5_1 hW 0]) rfl,
  fun f s W hW n q r u m => by have cv_ := IntWalk.i64_in v0 (by omega); exact opv rfl rfl (by simp [go_sem, m.e 41 (n 1 rfl), cv_]) rfl,
  fun f s W hW n q r u m => opv rfl rfl (by simp [go_sem, m.e 11 k7_11]) rfl,
  fun f s W hW n q r u m => opv rfl rfl (by simp [go_sem, m.e 43 (n 3 rfl)]) rfl,
  fun f s W hW n q r u m => by have qu_ : (v0).tmod (2) = (at_ : Int) := (Int.tmod_eq_emod_of_nonneg (by omega)).trans hvt; have qw_ := IntWalk.i64_in (at_ : Int) (by omega); have qz_ : ¬ ((2) : Int) = 0 := (by omega); exact opv rfl rfl (by simp [go_sem, m.e 42 (n 2 rfl), m.e 44 (n 4 rfl), qu_, qw_, qz_]) rfl,
  fun f s W hW n q r u m => opv rfl rfl (by simp [go_sem, m.e 45 (n 5 rfl)]) rfl, trivial⟩ ?_
 intro f8 s8 W8 hB8 g8 hg8
 have fB8 := hB8.f fB5
 have z8 := hB8.below.size
 have b8_0 := hB8.b b5_0
 have b8_1 := hB8.b b5_1
 have b8_2 := hB8.b nb5
 have q99' := (q91'.bw hB8)
 have q100' := (hB8.lt q92')
 have q101' := (q93'.bw hB8)
 have q102' := (hB8.lt q94')
 have q103' := (q95'.below hB8.below)
 have q104' := (q96'.below hB8.below)
 have q105' := q97'
 have q106' := q98'
 refine hK7 _ _ ?_
 have k8_3 := kt hg8 3 k7_3
 have k8_4 := kt hg8 4 k7_4
 have k8_6 := kt hg8 6 k7_6
 have k8_7 := kt hg8 7 k7_7
 have k8_9 := kt hg8 9 k7_9
 have k8_10 := kt hg8 10 k7_10
 have k8_11 := kt hg8 11 k7_11
 have k8_12 := kt hg8 12 (hB8.is 6)
 have q107' : OrdR W8 g79' 0 3 (os) := q103'.here
 have q108' : SuR W8 b84' o85' (2) (xs) ad86' cp87' := q104'.here
 clear b5_0 b5_1 fB5 hB8 hK7 hg8 k7_10 k7_11 k7_3 k7_4 k7_6 k7_7 k7_9 nb5
 refine wp_seq_k fun K8 hK8 => ?_
 refine region_dk 11 [(46, 0), (47, 1), (48, 2), (49, 3), (50, 4), (51, 5), (52, 6), (53, 7), (54, 8), (55, 9), (13, 10)] [[], [0], [0, 1], [], [], [3, 4], [3, 4, 5], [3, 4, 5, 6], [3, 4, 5, 6, 7], [0, 1, 2, 3, 4, 5, 6, 7, 8], [0, 1, 2, 3, 4, 5, 6, 7, 8, 9]] (rel [is (.pointer (some ⟨(s1 1), 1, none⟩)),
   is (.int .u8 v1),
   is (.int .i64 v1),
   is (.slice (a82') (2) (c83')),
   is (.int .i64 ((at_ : Int))),
   is (.pointer (some ⟨b84', o85' + at_ * 2, none⟩)),
   is (.pointer (some ⟨b84', o85' + at_ * 2 + 1, none⟩)),
   is (.int .i64 ((xs at_).2)),
   is (.int .i64 (((xs at_).2) + 1)),
   is (.int .i64 dn),
   is (.int .i64 dn)])
  ⟨is_k, is_k, is_k, is_k, is_k, is_k, is_k, is_k, is_k, is_k, is_k, trivial⟩
  ⟨fun f s W hW n q r u m => opv rfl rfl (by simp [go_sem, m.e 3 k8_3]) rfl,
  fun f s W hW n q r u m => opv rfl rfl (by simp [go_sem, m.e 46 (n 0 rfl), cb b8_1 hW 1]) rfl,
  fun f s W hW n q r u m => by have cv_ := IntWalk.i64_in v1 (by omega); exact opv rfl rfl (by simp [go_sem, m.e 47 (n 1 rfl), cv_]) rfl,
  fun f s W hW n q r u m => opv rfl rfl (by simp [go_sem, m.e 11 k8_11]) rfl,
  fun f s W hW n q r u m => opv rfl rfl (by simp [go_sem, m.e 12 k8_12]) rfl,
  fun f s W hW n q r u m => by have li_ := Nat.not_le.2 (show at_ < 2 by omega); have li2_ : ((at_ : Nat) : Int) < 2 := (by omega); have hab := q105' (by decide); exact opv rfl rfl (by simp [go_sem, m.e 49 (n 3 rfl), m.e 50 (n 4 rfl), li_, li2_, hab]) rfl,
  fun f s W hW n q r u m => opv rfl rfl (by simp [go_sem, m.e 51 (n 5 rfl)]) rfl,
  fun f s W hW n q r u m => by have cu_ := (q108'.below hW).2 at_ (by omega); have cu0_ := cu_.1; have cu1_ := cu_.2.1; exact opv rfl rfl (by simp [go_sem, m.e 52 (n 6 rfl), cu0_, cu1_]) rfl,
  fun f s W hW n q r u m => opv rfl rfl (by simp [go_sem, m.e 53 (n 7 rfl), IntWalk.i64_in (((xs at_).2) + 1) (by omega)]) rfl,
  fun f s W hW n q r u m => by have qu_ : (v1).tmod (((xs at_).2) + 1) = dn := (Int.tmod_eq_emod_of_nonneg (by omega)).trans hvd; have qw_ := IntWalk.i64_in dn (by omega); have qz_ : ¬ ((((xs at_).2) + 1) : Int) = 0 := (by omega); exact opv rfl rfl (by simp [go_sem, m.e 48 (n 2 rfl), m.e 54 (n 8 rfl), qu_, qw_, qz_]) rfl,
  fun f s W hW n q r u m => opv rfl rfl (by simp [go_sem, m.e 55 (n 9 rfl)]) rfl, trivial⟩ ?_
 clear k8_3
 intro f9 s9 W9 hB9 g9 hg9
 have fB9 := hB9.f fB8
 have z9 := hB9.below.size
 have b9_0 := hB9.b b8_0
 have b9_1 := hB9.b b8_1
 have b9_2 := hB9.b b8_2
 have q109' := (q99'.bw hB9)
 have q110' := (hB9.lt q100')
 have q111' := (q101'.bw hB9)
 have q112' := (hB9.lt q102')
 have q113' := (q107'.below hB9.below)
 have q114' := (q108'.below hB9.below)
 have q115' := q105'
 have q116' := q106'
 refine hK8 _ _ ?_
 have k9_4 := kt hg9 4 k8_4
 have k9_6 := kt hg9 6 k8_6
 have k9_7 := kt hg9 7 k8_7
 have k9_9 := kt hg9 9 k8_9
 have k9_10 := kt hg9 10 k8_10
 have k9_11 := kt hg9 11 k8_11
 have k9_12 := kt hg9 12 k8_12
 have k9_13 := kt hg9 13 (hB9.is 10)
 clear b8_0 b8_1 b8_2 fB8 hB9 hK8 hg9 k8_10 k8_11 k8_12 k8_4 k8_6 k8_7 k8_9
 refine wp_seq_k fun K9 hK9 => ?_
 refine region_dk 13 [(57, 0), (58, 1), (59, 2), (60, 3), (61, 4), (62, 5), (63, 6), (64, 7), (56, 8), (65, 9), (66, 10), (14, 11), (15, 12)] [[], [], [1], [], [1, 2, 3], [], [], [0, 1, 2, 3, 4, 5, 6], [0, 1, 2, 3, 4, 5, 6, 7], [0, 1, 2, 3, 4, 5, 6, 7, 8], [0, 1, 2, 3, 4, 5, 6, 7, 8], [0, 1, 2, 3, 4, 5, 6, 7, 8, 9], [0, 1, 2, 3, 4, 5, 6, 7, 8, 9, 10, 11]] (rel [is (.agg #[.int .i64 p.wide, .int .i64 p.tlo, .int .i64 p.thi, .int .i64 p.webs]),
   is (.slice (some ⟨g79', 0, none⟩) (3) (c80')),
   ab fun v W => IsOrd 3 (os) v W,
   is (.slice (a82') (2) (c83')),
   ab fun v W => IsPlan (2) (xs) v W,
   is (.int .i64 ((at_ : Int))),
   is (.int .i64 dn),
   ab fun v W => ∃ x0, v = .tuple #[x0, .int .i64 0] ∧ IsOrd 3 (osL os gf) x0 W,
   ab fun v W => ∃ x0, v = .tuple #[x0, .int .i64 0] ∧ IsOrd 3 (osL os gf) x0 W,
   ab fun v W => IsOrd 3 (osL os gf) v W,
   is (.int .i64 0),
   ab fun v W => IsOrd 3 (osL os gf) v W,
   is (.int .i64 0)])
  ⟨is_k, is_k, ab_k fun v W W' hb h => (h.below hb), is_k, ab_k fun v W W' hb h => (h.below hb), is_k, is_k, ab_k fun v W W' hb ⟨x0, e, h0⟩ => ⟨x0, e, (h0.below hb)⟩, ab_k fun v W W' hb ⟨x0, e, h0⟩ => ⟨x0, e, (h0.below hb)⟩, ab_k fun v W W' hb h => (h.below hb), is_k, ab_k fun v W W' hb h => (h.below hb), is_k, trivial⟩
  ⟨fun f s W hW n q r u m => opl rfl rfl rfl (m.v 9 k9_9) (blk_below b9_2 hW) Try.underlying35 rfl (by kernel_rfl) rfl,
  fun f s W hW n q r u m => opv rfl rfl (by simp [go_sem, m.e 10 k9_10]) rfl,
  fun f s W hW n q r u m => opDo_call rfl rfl (by simp [go_sem, m.e 58 (n 1 rfl)]) (pubOrders_any os g79' 0 3 c80' W ((q113'.below hW)) (by decide) (by decide)) ((fun e W' h => by obtain ⟨v, e1, h1, h2⟩ := h; exact ⟨_, e1, h2, h1⟩)),
  fun f s W hW n q r u m => opv rfl rfl (by simp [go_sem, m.e 11 k9_11]) rfl,
  fun f s W hW n q r u m => opDo_call rfl rfl (by simp [go_sem, m.e 60 (n 3 rfl)]) (pubPlan_any 2 c83' b84' o85' a82' xs ad86' cp87' W (q115') ((q114'.below hW)) (by decide) (fun j hj => by rw [hg.ln j hj]; decide)) ((fun e W' h => by obtain ⟨v, e1, h1, h2⟩ := h; exact ⟨_, e1, h2, h1⟩)),
  fun f s W hW n q r u m => opv rfl rfl (by simp [go_sem, m.e 12 k9_12]) rfl,
  fun f s W hW n q r u m => opv rfl rfl (by simp [go_sem, m.e 13 k9_13]) rfl,
  fun f s W hW n q r u m => by obtain ⟨g117', c118', d2, q119'⟩ := (n 2 rfl); obtain ⟨a120', c121', b122', o123', ad124', cp125', d4, q128', q127', q126'⟩ := (n 4 rfl); exact opDo_call (args := #[.agg #[.int .i64 p.wide, .int .i64 p.tlo, .int .i64 p.thi, .int .i64 p.webs], .slice (some ⟨g117', 0, none⟩) (3) (c118'), .slice (a120') (2) (c121'), .int .i64 ((at_ : Int)), .int .i64 dn]) rfl rfl (by simp [go_sem, m.e 57 (n 0 rfl), m.e 59 d2, m.e 61 d4, m.e 62 (n 5 rfl), m.e 63 (n 6 rfl)]) (tr_Rest p os g117' 0 c118' 2 c121' b122' o123' a120' xs ad124' cp125' at_ dn gf W q119' hp ho q127' q126' hg hwr q128' hat hdn hgf) ((fun e W' h => by obtain ⟨v, e1, h1, h2⟩ := h; exact ⟨_, e1, h2, ⟨v, rfl, h1⟩⟩)),
  fun f s W hW n q r u m => opv (v := (f 7)) rfl rfl (by simp [go_sem, (m.at' 64 rfl : u.tmps[64]?.getD undef = f 7)] <;> rfl) (n 7 rfl),
  fun f s W hW n q r u m => by obtain ⟨x8_0, d8, p8_0⟩ := (n 8 rfl); exact opv (v := x8_0) rfl rfl (by simp [go_sem, m.e 56 d8]) p8_0,
  fun f s W hW n q r u m => by obtain ⟨x8_0, d8, p8_0⟩ := (n 8 rfl); exact opv rfl rfl (by simp [go_sem, m.e 56 d8]) rfl,
  fun f s W hW n q r u m => opv (v := (f 9)) rfl rfl (by simp [go_sem, (m.at' 65 rfl : u.tmps[65]?.getD undef = f 9)] <;> rfl) (n 9 rfl),
  fun f s W hW n q r u m => opv rfl rfl (by simp [go_sem, m.e 66 (n 10 rfl)]) rfl, trivial⟩ ?_
 clear k9_10 k9_9
 intro f10 s10 W10 hB10 g10 hg10
 have fB10 := hB10.f fB9
 have z10 := hB10.below.size
 have b10_0 := hB10.b b9_0
 have b10_1 := hB10.b b9_1
 have b10_2 := hB10.b b9_2
 have q132' := (q109'.bw hB10)
 have q133' := (hB10.lt q110')
 have q134' := (q111'.bw hB10)
 have q135' := (hB10.lt q112')
 have q136' := (q113'.below hB10.below)
 have q137' := (q114'.below hB10.below)
 have q138' := q115'
 have q139' := q116'
 obtain ⟨g140', c141', r10_11, q142'⟩ := hB10.is 11
 refine hK9 _ _ ?_
 have k10_4 := kt hg10 4 k9_4
 have k10_6 := kt hg10 6 k9_6
 have k10_7 := kt hg10 7 k9_7
 have k10_11 := kt hg10 11 k9_11
 have k10_12 := kt hg10 12 k9_12
 have k10_13 := kt hg10 13 k9_13
 have k10_14 := kt hg10 14 r10_11
 have k10_15 := kt hg10 15 (hB10.is 12)
 clear b9_0 b9_1 b9_2 fB9 hB10 hK9 hg10 k9_11 k9_12 k9_13 k9_4 k9_6 k9_7 r10_11
 refine wp_seq_k fun K10 hK10 => ?_
 refine wp_seq_k fun K11 hK11 => ?_
 refine region_dk 7 [(67, 0), (68, 1), (69, 2), (70, 3), (71, 4), (72, 5), (73, 6)] [[], [0], [0, 1], [0, 1, 2], [0, 1, 2, 3], [0, 1, 2, 3, 4], [0, 1, 2, 3, 4, 5]] (rel [is (.int .i64 0),
   is (.bool false),
   is (.bool false),
   is (.slice (some ⟨g140', 0, none⟩) (3) (c141')),
   is (.int .i64 3),
   is (.bool false),
   is (.bool false)])
  ⟨is_k, is_k, is_k, is_k, is_k, is_k, is_k, trivial⟩
  ⟨fun f s W hW n q r u m => opv rfl rfl (by simp [go_sem, m.e 15 k10_15]) rfl,
  fun f s W hW n q r u m => opv rfl rfl (by simp [go_sem, m.e 67 (n 0 rfl)]) rfl,
  fun f s W hW n q r u m => opv rfl rfl (by simp [go_sem, m.e 68 (n 1 rfl)]) rfl,
  fun f s W hW n q r u m => osure rfl rfl (m.says (d := 69) rfl rfl (n 2 rfl)) (gv (by simp [go_sem, m.e 14 k10_14]) rfl),
  fun f s W hW n q r u m => osure rfl rfl (m.says (d := 69) rfl rfl (n 2 rfl)) (gv (by simp [go_sem, m.e 70 (n 3 rfl)]) rfl),
  fun f s W hW n q r u m => osure rfl rfl (m.says (d := 69) rfl rfl (n 2 rfl)) (gv (by simp [go_sem, m.e 71 (n 4 rfl)]) rfl),
  fun f s W hW n q r u m => opk (c := false) rfl rfl (fun _ => by simp [go_sem, m.e 69 (n 2 rfl), m.e 72 (n 5 rfl)]) (fun h => absurd h (by decide)), trivial⟩ ?_
 clear k10_15
 intro f11 s11 W11 hB11 g11 hg11
 have fB11 := hB11.f fB10
 have z11 := hB11.below.size
 have b11_0 := hB11.b b10_0
 have b11_1 := hB11.b b10_1
 have b11_2 := hB11.b b10_2
 have q143' := (q132'.bw hB11)
 have q144' := (hB11.lt q133')
 have q145' := (q134'.bw hB11)
 have q146' := (hB11.lt q135')
 have q147' := (q136'.below hB11.below)
 have q148' := (q137'.below hB11.below)
 have q149' := q138'
 have q150' := q139'
 have q151' := (q142'.below hB11.below)
 refine hK11 _ _ ?_
 have k11_4 := kt hg11 4 k10_4
 have k11_6 := kt hg11 6 k10_6
 have k11_7 := kt hg11 7 k10_7
 have k11_11 := kt hg11 11 k10_11
 have k11_12 := kt hg11 12 k10_12
 have k11_13 := kt hg11 13 k10_13
 have k11_14 := kt hg11 14 k10_14
 have k11_73 := kt hg11 73 (hB11.is 6)
 clear b10_0 b10_1 b10_2 fB10 hB11 hK11 hg11 k10_11 k10_12 k10_13 k10_14 k10_4 k10_6 k10_7
 refine wp_cond_false ((fr_eval rfl).trans k11_73) ?_
 clear k11_73
 refine wp_skip ?_
 refine hK10 _ _ ?_
 clear hK10
 refine wp_seq_k fun K13 hK13 => ?_
 refine wp_seq_k fun K14 hK14 => ?_
 refine region_dk 1 [(16, 0)] [[]] (rel [is (.int .i64 0)])
  ⟨is_k, trivial⟩
  ⟨fun f s W hW n q r u m => opv rfl rfl (by simp [go_sem]) rfl, trivial⟩ ?_
 intro f12 s12 W12 hB12 g12 hg12
 have fB12 := hB12.f fB11
 have z12 := hB12.below.size
 have b12_0 := hB12.b b11_0
 have b12_1 := hB12.b b11_1
 have b12_2 := hB12.b b11_2
 have q152' := (q143'.bw hB12)
 have q153' := (hB12.lt q144')
 have q154' := (q145'.bw hB12)
 have q155' := (hB12.lt q146')
 have q156' := (q147'.below hB12.below)
 have q157' := (q148'.below hB12.below)
 have q158' := q149'
 have q159' := q150'
 have q160' := (q151'.below hB12.below)
 refine hK14 _ _ ?_
 have k12_4 := kt hg12 4 k11_4
 have k12_6 := kt hg12 6 k11_6
 have k12_7 := kt hg12 7 k11_7
 have k12_11 := kt hg12 11 k11_11
 have k12_12 := kt hg12 12 k11_12
 have k12_13 := kt hg12 13 k11_13
 have k12_14 := kt hg12 14 k11_14
 have k12_16 := kt hg12 16 (hB12.is 0)
 have fA13 : Below W12.heap.size W12 W12 := Below.refl _ _
 clear b11_0 b11_1 b11_2 b12_0 b12_1 b12_2 fB11 hB12 hK14 hg12 k11_11 k11_12 k11_13 k11_14 k11_4 k11_6 k11_7
 refine wp_block ?_
 refine wp_loop_n (fun m_ a_ W_ => ∃ g_ : Nat → Value, a_ = fr 217 g_ ∧ (∃ k : Nat, m_ = 3 - k ∧ g_ 4 = .bool false ∧ g_ 6 = .slice (some ⟨g63', 0, none⟩) (3) (c64') ∧ g_ 7 = .slice (some ⟨g67', 0, none⟩) (3) (c68') ∧ g_ 11 = .slice (a82') (2) (c83') ∧ g_ 12 = .int .i64 ((at_ : Int)) ∧ g_ 13 = .int .i64 dn ∧ g_ 14 = .slice (some ⟨g140', 0, none⟩) (3) (c141') ∧ g_ 16 = .int .i64 ((k : Int)) ∧ Below w.heap.size w W_ ∧ W12.heap.size ≤ W_.heap.size ∧ Below W12.heap.size W12 W_ ∧ (k ≤ 3))) ⟨_, g12, rfl, 0, rfl, k12_4, k12_6, k12_7, k12_11, k12_12, k12_13, k12_14, k12_16.trans (by rfl), fB12, Nat.le_refl _, fA13, (by omega)⟩ ?_
 rintro _ _ W_161 ⟨g_161, rfl, k, rfl, k_161_4, k_161_6, k_161_7, k_161_11, k_161_12, k_161_13, k_161_14, k_161_16, fB_161, z_161, fA_161, lk0⟩
 clear fB12 k12_11 k12_12 k12_13 k12_14 k12_16 k12_4 k12_6 k12_7
 refine wp_seq_k fun K15 hK15 => ?_
 refine wp_seq_k fun K16 hK16 => ?_
 refine region_dk 2 [(74, 0), (75, 1)] [[], [0]] (rel [is (.int .i64 ((k : Int))),
   is (.bool (decide ((k : Int) < 3)))])
  ⟨is_k, is_k, trivial⟩
  ⟨fun f s W hW n q r u m => opv rfl rfl (by simp [go_sem, m.e 16 k_161_16]) rfl,
  fun f s W hW n q r u m => opv rfl rfl (by simp [go_sem, m.e 74 (n 0 rfl)]) rfl, trivial⟩ ?_
 intro f14 s14 W14 hB14 g14 hg14
 have fB14 := hB14.f fB_161
 have z14 := hB14.below.size
 have fA14 := hB14.f fA_161
 refine hK16 _ _ ?_
 have k14_4 := kt hg14 4 k_161_4
 have k14_6 := kt hg14 6 k_161_6
 have k14_7 := kt hg14 7 k_161_7
 have k14_11 := kt hg14 11 k_161_11
 have k14_12 := kt hg14 12 k_161_12
 have k14_13 := kt hg14 13 k_161_13
 have k14_14 := kt hg14 14 k_161_14
 have k14_16 := kt hg14 16 k_161_16
 have k14_75 := kt hg14 75 (hB14.is 1)
 clear hB14 hK16 hg14
 refine wp_cond_split (t := decide ((k : Int) < 3)) ((fr_eval rfl).trans k14_75) (fun hc17 => ?_) (fun hc17 => ?_)
 ·
  have hc17' := hc17; try simp only [ba] at hc17'
  have hk3 : k < 3 := by omega
  have hac_ := hacl k hk3
  have hwb_ := getD_bd (hg.bd at_ hat) (by decide) k
  have hs0_ := shF_bd (rn := dn) hac_.1 (by omega)
  have hs1_ := shF_bd (rn := (xs at_).2 - dn) hac_.1 (by omega)
  have hs2_ := shF_bd (rn := (xs at_).2) hac_.1 (by omega)
  have hm0_ := tr_mul hwb_ hs0_
  have hm1_ := tr_mul hwb_ hs1_
  have hm2_ := tr_mul hwb_ hs2_
  have hl_ := hlaw k hk3
  have dq0 : (decide (((elT (xs at_).1 k) * (shF (elT acl k) (xs at_).2)) < (((elT (xs at_).1 k) * (shF (elT acl k) dn)) + ((elT (xs at_).1 k) * (shF (elT acl k) ((xs at_).2 - dn)))))) = false := decide_eq_false (by omega)
  have dq1 : (decide ((((elT (xs at_).1 k) * (shF (elT acl k) dn)) + ((elT (xs at_).1 k) * (shF (elT acl k) ((xs at_).2 - dn)))) < (((elT (xs at_).1 k) * (shF (elT acl k) (xs at_).2)) - (elT (xs at_).1 k)))) = false := decide_eq_false (by omega)
  have hm3_ := tr_mul hwb_ (show 0 ≤ (xs at_).2 - dn ∧ (xs at_).2 - dn ≤ 30 by omega)
  have hal_ := hall k hk3
  have dq2 : ((((osL os gf) k).wd) != (elT (all_) k)) = false := by rw [show (((osL os gf) k).wd) = elT (all_) k from hal_]; exact bne_self_eq_false _
  obtain ⟨bwat_, owat_, hwat_⟩ := ii_addr (q157'.2 at_ (by omega)).2.2 (by rw [hg.ln at_ (by omega)]; decide)
  clear k14_75
  refine wp_skip ?_
  refine hK15 _ _ ?_
  clear hK15
  refine wp_seq_k fun K18 hK18 => ?_
  refine wp_block ?_
  refine wp_seq_k fun K19 hK19 => ?_
  refine region_dk 2 [(78, 0), (17, 1)] [[], [], [0, 1]] (rel [is (.agg #[.int .i64 0, .int .i64 0, .int .i64 0]),
   bx 1 #[.int .i64 0, .int .i64 0, .int .i64 0] 59])
   ⟨is_k, bx_k, trivial⟩
   ⟨fun f s W hW n q r u m => opv rfl rfl (by simp [go_sem]) rfl,
  fun f s W hW n q r u m => opb rfl rfl (by simp [go_sem]), trivial⟩ ?_
  intro f15 s15 W15 hB15 g15 hg15
  have fB15 := hB15.f fB14
  have z15 := hB15.below.size
  have fA15 := hB15.f fA14
  obtain ⟨r15_1, br15_1⟩ := hB15.is 1
  have lr15_1 := hB15.lr 1 br15_1
  have k15_4 := kt hg15 4 k14_4
  have k15_6 := kt hg15 6 k14_6
  have k15_7 := kt hg15 7 k14_7
  have k15_11 := kt hg15 11 k14_11
  have k15_12 := kt hg15 12 k14_12
  have k15_13 := kt hg15 13 k14_13
  have k15_14 := kt hg15 14 k14_14
  have k15_16 := kt hg15 16 k14_16
  have k15_78 := kt hg15 78 (hB15.is 0)
  have k15_17 := kt hg15 17 r15_1
  obtain ⟨W16, hW16⟩ : ∃ W', W' = W15.setRow (s15 1) #[.int .i64 0, .int .i64 0, .int .i64 0] := ⟨_, rfl⟩
  refine tail_skip (o := _) rfl ⟨rfl, rfl⟩ (run_seg hW16 (fr_ev k15_17) (fr_ev k15_78) br15_1 rfl rfl rfl rfl) ?_
  obtain ⟨fB16, nb16, ot16, z16⟩ := seg_facts hW16 fB15 br15_1 (by omega)
  have fA16 := (seg_facts hW16 fA15 br15_1 (by omega)).1
  clear hW16
  refine wpOps_end ?_
  refine hK19 _ _ ?_
  clear br15_1 fB15 hB15 hK19 hg15 k14_11 k14_12 k14_13 k14_14 k14_16 k14_4 k14_6 k14_7 k15_78 ot16 r15_1
  refine wp_seq_k fun K20 hK20 => ?_
  refine wp_seq_k fun K21 hK21 => ?_
  refine region_dk 1 [(18, 0)] [[]] (rel [is (.int .i64 0)])
   ⟨is_k, trivial⟩
   ⟨fun f s W hW n q r u m => opv rfl rfl (by simp [go_sem]) rfl, trivial⟩ ?_
  intro f17 s17 W17 hB17 g17 hg17
  have fB17 := hB17.f fB16
  have z17 := hB17.below.size
  have fA17 := hB17.f fA16
  have b17_3 := hB17.b nb16
  refine hK21 _ _ ?_
  have k17_4 := kt hg17 4 k15_4
  have k17_6 := kt hg17 6 k15_6
  have k17_7 := kt hg17 7 k15_7
  have k17_11 := kt hg17 11 k15_11
  have k17_12 := kt hg17 12 k15_12
  have k17_13 := kt hg17 13 k15_13
  have k17_14 := kt hg17 14 k15_14
  have k17_16 := kt hg17 16 k15_16
  have k17_17 := kt hg17 17 k15_17
  have k17_18 := kt hg17 18 (hB17.is 0)
  clear fB16 hB17 hK21 hg17 k15_11 k15_12 k15_13 k15_14 k15_16 k15_17 k15_4 k15_6 k15_7 nb16
  refine wp_block ?_
  refine wp_loop_rounds 4 ?_
  rw [rounds_succ]
  refine wp_seq_k fun K22 hK22 => ?_
  refine wp_seq_k fun K23 hK23 => ?_
  refine region_dk 2 [(79, 0), (80, 1)] [[], [0]] (rel [is (.int .i64 0),
   is (.bool true)])
   ⟨is_k, is_k, trivial⟩
   ⟨fun f s W hW n q r u m => opv rfl rfl (by simp [go_sem, m.e 18 k17_18]) rfl,
  fun f s W hW n q r u m => opv rfl rfl (by simp [go_sem, m.e 79 (n 0 rfl)]) rfl, trivial⟩ ?_
  intro f18 s18 W18 hB18 g18 hg18
  have fB18 := hB18.f fB17
  have z18 := hB18.below.size
  have fA18 := hB18.f fA17
  have b18_3 := hB18.b b17_3
  refine hK23 _ _ ?_
  have k18_4 := kt hg18 4 k17_4
  have k18_6 := kt hg18 6 k17_6
  have k18_7 := kt hg18 7 k17_7
  have k18_11 := kt hg18 11 k17_11
  have k18_12 := kt hg18 12 k17_12
  have k18_13 := kt hg18 13 k17_13
  have k18_14 := kt hg18 14 k17_14
  have k18_16 := kt hg18 16 k17_16
  have k18_17 := kt hg18 17 k17_17
  have k18_18 := kt hg18 18 k17_18
  have k18_80 := kt hg18 80 (hB18.is 1)
  clear b17_3 fB17 hB18 hK23 hg18 k17_11 k17_12 k17_13 k17_14 k17_16 k17_17 k17_18 k17_4 k17_6 k17_7
  refine wp_cond_true ((fr_eval rfl).trans k18_80) ?_
  refine wp_skip ?_
  refine hK22 _ _ ?_
  clear hK22
  refine wp_seq_k fun K25 hK25 => ?_
  refine wp_block ?_
  refine wp_seq_k fun K26 hK26 => ?_
  refine region_doL (LeT (W18.heap.size) 33 (justC (#[.int .i64 ((shF (elT acl k) dn)), .int .i64 ((shF (elT acl k) dn))]))) LeT.refl (LeT.drew justC_b) LeT.trans (fun _ _ h => h.size) 26 [(84, 0), (85, 1), (86, 2), (87, 3), (88, 4), (89, 5), (90, 6), (91, 7), (92, 8), (93, 9), (94, 10), (95, 11), (96, 12), (97, 13), (98, 14), (99, 15), (100, 16), (101, 17), (102, 18), (103, 19), (104, 20), (83, 21), (105, 22), (106, 23), (19, 24), (20, 26)] [[], [], [0, 1], [0, 1, 2], [], [], [], [5, 6], [5, 6, 7], [5, 6, 7, 8], [], [5, 6, 7, 8, 9, 10], [], [], [12, 13], [12, 13, 14], [12, 13, 14, 15], [4, 5, 6, 7, 8, 9, 10, 11, 12, 13, 14, 15, 16], [], [4, 5, 6, 7, 8, 9, 10, 11, 12, 13, 14, 15, 16, 17, 18], [0, 1, 2, 3, 4, 5, 6, 7, 8, 9, 10, 11, 12, 13, 14, 15, 16, 17, 18, 19], [0, 1, 2, 3, 4, 5, 6, 7, 8, 9, 10, 11, 12, 13, 14, 15, 16, 17, 18, 19, 20], [0, 1, 2, 3, 4, 5, 6, 7, 8, 9, 10, 11, 12, 13, 14, 15, 16, 17, 18, 19, 20, 21], [0, 1, 2, 3, 4, 5, 6, 7, 8, 9, 10, 11, 12, 13, 14, 15, 16, 17, 18, 19, 20, 21], [], [0, 1, 2, 3, 4, 5, 6, 7, 8, 9, 10, 11, 12, 13, 14, 15, 16, 17, 18, 19, 20, 21, 22, 24], [0, 1, 2, 3, 4, 5, 6, 7, 8, 9, 10, 11, 12, 13, 14, 15, 16, 17, 18, 19, 20, 21, 22, 23, 24, 25]] (rel [is (.slice (some ⟨g63', 0, none⟩) (3) (c64')),
   is (.int .i64 ((k : Int))),
   is (.pointer (some ⟨g63', k, none⟩)),
   is (.int .i64 ((elT (acl) k))),
   is (.int .i64 dn),
   is (.slice (a82') (2) (c83')),
   is (.int .i64 ((at_ : Int))),
   is (.pointer (some ⟨b84', o85' + at_ * 2, none⟩)),
   is (.pointer (some ⟨b84', o85' + at_ * 2 + 1, none⟩)),
   is (.int .i64 ((xs at_).2)),
   is (.int .i64 dn),
   is (.int .i64 (((xs at_).2) - dn)),
   is (.slice (a82') (2) (c83')),
   is (.int .i64 ((at_ : Int))),
   is (.pointer (some ⟨b84', o85' + at_ * 2, none⟩)),
   is (.pointer (some ⟨b84', o85' + at_ * 2 + 1, none⟩)),
   is (.int .i64 ((xs at_).2)),
   is (.agg #[.int .i64 dn, .int .i64 (((xs at_).2) - dn), .int .i64 ((xs at_).2)]),
   is (.int .i64 0),
   is (.int .i64 dn),
   is (.tuple #[.agg #[.int .i64 ((shF (elT acl k) dn)), .int .i64 ((shF (elT acl k) dn))], .int .i64 0]),
   is (.tuple #[.agg #[.int .i64 ((shF (elT acl k) dn)), .int .i64 ((shF (elT acl k) dn))], .int .i64 0]),
   is (.agg #[.int .i64 ((shF (elT acl k) dn)), .int .i64 ((shF (elT acl k) dn))]),
   is (.int .i64 0),
   boxT (W18.heap.size) 33 2 24,
   stoT (W18.heap.size) 33 (justC (#[.int .i64 ((shF (elT acl k) dn)), .int .i64 ((shF (elT acl k) dn))])) 24]) (by kernel_rfl) (by kernel_rfl) (by kernel_rfl) (by kernel_rfl)
   ⟨is_kl, is_kl, is_kl, is_kl, is_kl, is_kl, is_kl, is_kl, is_kl, is_kl, is_kl, is_kl, is_kl, is_kl, is_kl, is_kl, is_kl, is_kl, is_kl, is_kl, is_kl, is_kl, is_kl, is_kl, boxT_k, stoT_k (by simp), trivial⟩
   ⟨fun f s W hT n q r u m => by have hW := LeT.below hT (Nat.le_refl _); exact OpDo.l (LeT.of_below justC_b) (opv rfl rfl (by simp [go_sem, m.e 6 k18_6]) rfl),
  fun f s W hT n q r u m => by have hW := LeT.below hT (Nat.le_refl _); exact OpDo.l (LeT.of_below justC_b) (opv rfl rfl (by simp [go_sem, m.e 16 k18_16]) rfl),
  fun f s W hT n q r u m => by have hW := LeT.below hT (Nat.le_refl _); exact OpDo.l (LeT.of_below justC_b) (by have li_ := Nat.not_le.2 (show k < 3 by omega); have li2_ : (k : Int) < 3 := (by omega); exact opv rfl rfl (by simp [go_sem, m.e 84 (n 0 rfl), m.e 85 (n 1 rfl), li_, li2_]) rfl),
  fun f s W hT n q r u m => by have hW := LeT.below hT (Nat.le_refl _); exact OpDo.l (LeT.of_below justC_b) (by have aW := below_trans fA18 hW; have cu_ := ii_at3 (q152'.below aW (Nat.le_refl _)) (show k < 3 by omega); exact opv rfl rfl (by simp [go_sem, m.e 86 (n 2 rfl), cu_]) rfl),
  fun f s W hT n q r u m => by have hW := LeT.below hT (Nat.le_refl _); exact OpDo.l (LeT.of_below justC_b) (opv rfl rfl (by simp [go_sem, m.e 13 k18_13]) rfl),
  fun f s W hT n q r u m => by have hW := LeT.below hT (Nat.le_refl _); exact OpDo.l (LeT.of_below justC_b) (opv rfl rfl (by simp [go_sem, m.e 11 k18_11]) rfl),
  fun f s W hT n q r u m => by have hW := LeT.below hT (Nat.le_refl _); exact OpDo.l (LeT.of_below justC_b) (opv rfl rfl (by simp [go_sem, m.e 12 k18_12]) rfl),
  fun f s W hT n q r u m => by have hW := LeT.below hT (Nat.le_refl _); exact OpDo.l (LeT.of_below justC_b) (by have li_ := Nat.not_le.2 (show at_ < 2 by omega); have li2_ : ((at_ : Nat) : Int) < 2 := (by omega); have hab := q158' (by decide); exact opv rfl rfl (by simp [go_sem, m.e 89 (n 5 rfl), m.e 90 (n 6 rfl), li_, li2_, hab]) rfl),
  fun f s W hT n q r u m => by have hW := LeT.below hT (Nat.le_refl _); exact OpDo.l (LeT.of_below justC_b) (opv rfl rfl (by simp [go_sem, m.e 91 (n 7 rfl)]) rfl),
  fun f s W hT n q r u m => by have hW := LeT.below hT (Nat.le_refl _); exact OpDo.l (LeT.of_below justC_b) (by have aW := below_trans fA18 hW; have cu_ := (q157'.below aW).2 at_ (by omega); have cu0_ := cu_.1; have cu1_ := cu_.2.1; exact opv rfl rfl (by simp [go_sem, m.e 92 (n 8 rfl), cu0_, cu1_]) rfl),
  fun f s W hT n q r u m => by have hW := LeT.below hT (Nat.le_refl _); exact OpDo.l (LeT.of_below justC_b) (opv rfl rfl (by simp [go_sem, m.e 13 k18_13]) rfl),
  fun f s W hT n q r u m => by have hW := LeT.below hT (Nat.le_refl _); exact OpDo.l (LeT.of_below justC_b) (opv rfl rfl (by simp [go_sem, m.e 93 (n 9 rfl), m.e 94 (n 10 rfl), IntWalk.i64_in (((xs at_).2) - dn) (by omega)]) rfl),
  fun f s W hT n q r u m => by have hW := LeT.below hT (Nat.le_refl _); exact OpDo.l (LeT.of_below justC_b) (opv rfl rfl (by simp [go_sem, m.e 11 k18_11]) rfl),
  fun f s W hT n q r u m => by have hW := LeT.below hT (Nat.le_refl _); exact OpDo.l (LeT.of_below justC_b) (opv rfl rfl (by simp [go_sem, m.e 12 k18_12]) rfl),
  fun f s W hT n q r u m => by have hW := LeT.below hT (Nat.le_refl _); exact OpDo.l (LeT.of_below justC_b) (by have li_ := Nat.not_le.2 (show at_ < 2 by omega); have li2_ : ((at_ : Nat) : Int) < 2 := (by omega); have hab := q158' (by decide); exact opv rfl rfl (by simp [go_sem, m.e 96 (n 12 rfl), m.e 97 (n 13 rfl), li_, li2_, hab]) rfl),
  fun f s W hT n q r u m => by have hW := LeT.below hT (Nat.le_refl _); exact OpDo.l (LeT.of_below justC_b) (opv rfl rfl (by simp [go_sem, m.e 98 (n 14 rfl)]) rfl),
  fun f s W hT n q r u m => by have hW := LeT.below hT (Nat.le_refl _); exact OpDo.l (LeT.of_below justC_b) (by have aW := below_trans fA18 hW; have cu_ := (q157'.below aW).2 at_ (by omega); have cu0_ := cu_.1; have cu1_ := cu_.2.1; exact opv rfl rfl (by simp [go_sem, m.e 99 (n 15 rfl), cu0_, cu1_]) rfl),
  fun f s W hT n q r u m => by have hW := LeT.below hT (Nat.le_refl _); exact OpDo.l (LeT.of_below justC_b) (opv rfl rfl (by simp [go_sem, m.e 88 (n 4 rfl), m.e 95 (n 11 rfl), m.e 100 (n 16 rfl)]) rfl),
  fun f s W hT n q r u m => by have hW := LeT.below hT (Nat.le_refl _); exact OpDo.l (LeT.of_below justC_b) (opv rfl rfl (by simp [go_sem, m.e 18 k18_18]) rfl),
  fun f s W hT n q r u m => by have hW := LeT.below hT (Nat.le_refl _); exact OpDo.l (LeT.of_below justC_b) (by have ix_ : ∀ W : World, (Instr.index 59 (.agg #[.int .i64 dn, .int .i64 (((xs at_).2) - dn), .int .i64 ((xs at_).2)]) (.int .i64 0)).run Try.prog W = .ok (.int .i64 dn) W := fun W => (by kernel_rfl); exact opv rfl rfl (by simp [go_sem, m.e 101 (n 17 rfl), m.e 102 (n 18 rfl), ix_]) rfl),
  fun f s W hT n q r u m => by have hW := LeT.below hT (Nat.le_refl _); exact OpDo.l (LeT.of_below justC_b) (opDo_call (args := #[.int .i64 ((elT (acl) k)), .int .i64 dn, .int .i64 0]) rfl rfl (by simp [go_sem, m.e 87 (n 3 rfl), m.e 103 (n 19 rfl)]) (tr_Sheets ((elT (acl) k)) dn 0 W hac_ (by omega) (by decide)) ((fun e W' h => by have h1 := h.1; rw [Int.add_zero, Int.sub_zero] at h1; exact ⟨_, h1, h.2, rfl⟩))),
  fun f s W hT n q r u m => by have hW := LeT.below hT (Nat.le_refl _); exact OpDo.l (LeT.of_below justC_b) (opv rfl rfl (by simp [go_sem, m.e 104 (n 20 rfl)]) rfl),
  fun f s W hT n q r u m => by have hW := LeT.below hT (Nat.le_refl _); exact OpDo.l (LeT.of_below justC_b) (opv rfl rfl (by simp [go_sem, m.e 83 (n 21 rfl)]) rfl),
  fun f s W hT n q r u m => by have hW := LeT.below hT (Nat.le_refl _); exact OpDo.l (LeT.of_below justC_b) (opv rfl rfl (by simp [go_sem, m.e 83 (n 21 rfl)]) rfl),
  fun f s W hT n q r u m => opT (cs := #[.int .i64 0, .int .i64 0]) justC_b (hT.size) rfl rfl (by simp [go_sem]) rfl,
  fun f s W hT n q r u m => by exact stoT_do (#[.int .i64 ((shF (elT acl k) dn)), .int .i64 ((shF (elT acl k) dn))]) rfl (by decide) (n 24 rfl) (m.v 19 (n 24 rfl).1) (m.v 105 (n 22 rfl)) rfl rfl (by rfl) (by rfl) ((rfl : justC (#[.int .i64 ((shF (elT acl k) dn)), .int .i64 ((shF (elT acl k) dn))]) (#[.int .i64 ((shF (elT acl k) dn)), .int .i64 ((shF (elT acl k) dn))]) W)) (fun _ _ _ h => h) (fun _ _ _ _ _ h => h), trivial⟩ ?_
  intro f19 s19 W19 hB19
  have hb19 := LeT.below hB19.le (Nat.le_refl _)
  have fB19 := below_trans fB18 hb19
  have z19 : W18.heap.size ≤ W19.heap.size := hb19.size
  have fA19 := below_trans fA18 hb19
  have b19_3 := blk_below b18_3 hb19
  obtain ⟨r19_24, lb19, -⟩ := hB19.is 24
  obtain ⟨-, cs19, bs19, hG19⟩ := hB19.is 25
  have hG19' : cs19 = #[.int .i64 ((shF (elT acl k) dn)), .int .i64 ((shF (elT acl k) dn))] := hG19
  subst hG19'
  have lr19_24 : W18.heap.size ≤ s19 24 ∧ s19 24 < W19.heap.size := ⟨lb19, lt_of_blk bs19⟩
  generalize hg19 : ov [(84, 0), (85, 1), (86, 2), (87, 3), (88, 4), (89, 5), (90, 6), (91, 7), (92, 8), (93, 9), (94, 10), (95, 11), (96, 12), (97, 13), (98, 14), (99, 15), (100, 16), (101, 17), (102, 18), (103, 19), (104, 20), (83, 21), (105, 22), (106, 23), (19, 24), (20, 26)] f19 g18 = g19
  have k19_4 := kt hg19 4 k18_4
  have k19_6 := kt hg19 6 k18_6
  have k19_7 := kt hg19 7 k18_7
  have k19_11 := kt hg19 11 k18_11
  have k19_12 := kt hg19 12 k18_12
  have k19_13 := kt hg19 13 k18_13
  have k19_14 := kt hg19 14 k18_14
  have k19_16 := kt hg19 16 k18_16
  have k19_17 := kt hg19 17 k18_17
  have k19_18 := kt hg19 18 k18_18
  have k19_80 := kt hg19 80 k18_80
  have k19_19 := kt hg19 19 r19_24
  have k19_106 := kt hg19 106 (hB19.is 23)
  refine tail_value (o := _) rfl rfl rfl (v := .int .i64 0) (by simp [go_sem, frv 217 k19_106]) ?_
  generalize hg20 : upd g19 20 (.int .i64 0) = g20
  have k20_4 := ku hg20 4 k19_4
  have k20_6 := ku hg20 6 k19_6
  have k20_7 := ku hg20 7 k19_7
  have k20_11 := ku hg20 11 k19_11
  have k20_12 := ku hg20 12 k19_12
  have k20_13 := ku hg20 13 k19_13
  have k20_14 := ku hg20 14 k19_14
  have k20_16 := ku hg20 16 k19_16
  have k20_17 := ku hg20 17 k19_17
  have k20_18 := ku hg20 18 k19_18
  have k20_80 := ku hg20 80 k19_80
  have k20_19 := ku hg20 19 k19_19
  have k20_106 := ku hg20 106 k19_106
  have k20_20 := kt hg20 20 (upd_same _ _ _)
  refine wpOps_end ?_
  refine hK26 _ _ ?_
  clear b18_3 fB18 hB19 hK26 hg19 hg20 k18_11 k18_12 k18_13 k18_14 k18_16 k18_17 k18_18 k18_4 k18_6 k18_7 k18_80 k19_106 k19_11 k19_12 k19_13 k19_14 k19_16 k19_17 k19_18 k19_19 k19_4 k19_6 k19_7 k19_80 r19_24
  refine wp_seq_k fun K27 hK27 => ?_
  refine wp_seq_k fun K28 hK28 => ?_
  refine region_dk 9 [(107, 0), (108, 1), (109, 2), (110, 3), (111, 4), (112, 5), (113, 6), (114, 7), (115, 8)] [[], [0], [0, 1], [0, 1, 2], [0, 1, 2, 3], [0, 1, 2], [0, 1, 2, 5], [0, 1, 2, 3, 4, 5, 6], [0, 1, 2, 3, 4, 5, 6, 7]] (rel [is (.int .i64 0),
   is (.bool false),
   is (.bool false),
   is (.pointer (some ⟨(s19 24), 0, none⟩)),
   is (.int .i64 ((shF (elT acl k) dn))),
   is (.pointer (some ⟨(s19 24), 1, none⟩)),
   is (.int .i64 ((shF (elT acl k) dn))),
   is (.bool false),
   is (.bool false)])
   ⟨is_k, is_k, is_k, is_k, is_k, is_k, is_k, is_k, is_k, trivial⟩
   ⟨fun f s W hW n q r u m => opv rfl rfl (by simp [go_sem, m.e 20 k20_20]) rfl,
  fun f s W hW n q r u m => opv rfl rfl (by simp [go_sem, m.e 107 (n 0 rfl)]) rfl,
  fun f s W hW n q r u m => opv rfl rfl (by simp [go_sem, m.e 108 (n 1 rfl)]) rfl,
  fun f s W hW n q r u m => osure rfl rfl (m.says (d := 109) rfl rfl (n 2 rfl)) (gv (by simp [go_sem, m.e 19 k20_19]) rfl),
  fun f s W hW n q r u m => osure rfl rfl (m.says (d := 109) rfl rfl (n 2 rfl)) (gv (by simp [go_sem, m.e 110 (n 3 rfl), cb bs19 hW 0]) rfl),
  fun f s W hW n q r u m => osure rfl rfl (m.says (d := 109) rfl rfl (n 2 rfl)) (gv (by simp [go_sem, m.e 19 k20_19]) rfl),
  fun f s W hW n q r u m => osure rfl rfl (m.says (d := 109) rfl rfl (n 2 rfl)) (gv (by simp [go_sem, m.e 112 (n 5 rfl), cb bs19 hW 1]) rfl),
  fun f s W hW n q r u m => osure rfl rfl (m.says (d := 109) rfl rfl (n 2 rfl)) (gv (by simp [go_sem, m.e 111 (n 4 rfl), m.e 113 (n 6 rfl)]) rfl),
  fun f s W hW n q r u m => opk (c := false) rfl rfl (fun _ => by simp [go_sem, m.e 109 (n 2 rfl), m.e 114 (n 7 rfl)]) (fun h => absurd h (by decide)), trivial⟩ ?_
  intro f21 s21 W21 hB21 g21 hg21
  have fB21 := hB21.f fB19
  have z21 := hB21.below.size
  have fA21 := hB21.f fA19
  have b21_3 := hB21.b b19_3
  have b21_4 := hB21.b bs19
  refine hK28 _ _ ?_
  have k21_4 := kt hg21 4 k20_4
  have k21_6 := kt hg21 6 k20_6
  have k21_7 := kt hg21 7 k20_7
  have k21_11 := kt hg21 11 k20_11
  have k21_12 := kt hg21 12 k20_12
  have k21_13 := kt hg21 13 k20_13
  have k21_14 := kt hg21 14 k20_14
  have k21_16 := kt hg21 16 k20_16
  have k21_17 := kt hg21 17 k20_17
  have k21_18 := kt hg21 18 k20_18
  have k21_80 := kt hg21 80 k20_80
  have k21_19 := kt hg21 19 k20_19
  have k21_106 := kt hg21 106 k20_106
  have k21_20 := kt hg21 20 k20_20
  have k21_115 := kt hg21 115 (hB21.is 8)
  clear b19_3 fB19 hB21 hK28 hg21 k20_106 k20_11 k20_12 k20_13 k20_14 k20_16 k20_17 k20_18 k20_19 k20_20 k20_4 k20_6 k20_7 k20_80
  refine wp_cond_false ((fr_eval rfl).trans k21_115) ?_
  refine wp_skip ?_
  refine hK27 _ _ ?_
  refine region_dk 13 [(116, 0), (117, 1), (118, 2), (119, 3), (120, 4), (121, 5), (122, 6), (123, 7), (124, 8), (125, 9), (126, 10), (127, 11), (128, 12)] [[], [], [], [1, 2], [1, 2, 3], [1, 2, 3, 4], [], [1, 2, 3, 4, 5, 6], [1, 2, 3, 4, 5, 6, 7], [], [9], [1, 2, 3, 4, 5, 6, 7, 8, 9, 10], [0, 1, 2, 3, 4, 5, 6, 7, 8, 9, 10, 11], [0, 1, 2, 3, 4, 5, 6, 7, 8, 9, 10, 11, 12]] (rel [is (.int .i64 0),
   is (.slice (a82') (2) (c83')),
   is (.int .i64 ((at_ : Int))),
   is (.pointer (some ⟨b84', o85' + at_ * 2, none⟩)),
   is (.pointer (some ⟨b84', o85' + at_ * 2, none⟩)),
   is (.slice ((ad86' at_)) ((xs at_).1.length) ((cp87' at_))),
   is (.int .i64 ((k : Int))),
   is (.pointer (some ⟨bwat_, owat_ + k, none⟩)),
   is (.int .i64 ((elT (xs at_).1 k))),
   is (.pointer (some ⟨(s19 24), 0, none⟩)),
   is (.int .i64 ((shF (elT acl k) dn))),
   is (.int .i64 ((elT (xs at_).1 k) * (shF (elT acl k) dn))),
   is (.pointer (some ⟨(s15 1), 0, none⟩))])
   ⟨is_k, is_k, is_k, is_k, is_k, is_k, is_k, is_k, is_k, is_k, is_k, is_k, is_k, trivial⟩
   ⟨fun f s W hW n q r u m => opv rfl rfl (by simp [go_sem, m.e 18 k21_18]) rfl,
  fun f s W hW n q r u m => opv rfl rfl (by simp [go_sem, m.e 11 k21_11]) rfl,
  fun f s W hW n q r u m => opv rfl rfl (by simp [go_sem, m.e 12 k21_12]) rfl,
  fun f s W hW n q r u m => by have li_ := Nat.not_le.2 (show at_ < 2 by omega); have li2_ : ((at_ : Nat) : Int) < 2 := (by omega); have hab := q158' (by decide); exact opv rfl rfl (by simp [go_sem, m.e 117 (n 1 rfl), m.e 118 (n 2 rfl), li_, li2_, hab]) rfl,
  fun f s W hW n q r u m => opv rfl rfl (by simp [go_sem, m.e 119 (n 3 rfl)]) rfl,
  fun f s W hW n q r u m => by have aW := below_trans fA21 hW; have cu_ := (q157'.below aW).2 at_ (by omega); have cu0_ := cu_.1; have cu1_ := cu_.2.1; exact opv rfl rfl (by simp [go_sem, m.e 120 (n 4 rfl), cu0_, cu1_]) rfl,
  fun f s W hW n q r u m => opv rfl rfl (by simp [go_sem, m.e 16 k21_16]) rfl,
  fun f s W hW n q r u m => by have hab := hwat_; have li_ := Nat.not_le.2 (show k < (xs at_).1.length by rw [hg.ln at_ (by omega)]; omega); have li2_ : (k : Int) < ((xs at_).1.length : Int) := (by rw [hg.ln at_ (by omega)]; omega); exact opv rfl rfl (by simp [go_sem, m.e 121 (n 5 rfl), m.e 122 (n 6 rfl), hab, li_, li2_]) rfl,
  fun f s W hW n q r u m => by have aW := below_trans fA21 hW; have cu_ := ii_atn ((q157'.below aW).2 at_ (by omega)).2.2 hwat_ (show k < (xs at_).1.length by rw [hg.ln at_ (by omega)]; omega); exact opv rfl rfl (by simp [go_sem, m.e 123 (n 7 rfl), cu_]) rfl,
  fun f s W hW n q r u m => opv rfl rfl (by simp [go_sem, m.e 19 k21_19]) rfl,
  fun f s W hW n q r u m => opv rfl rfl (by simp [go_sem, m.e 125 (n 9 rfl), cb b21_4 hW 0]) rfl,
  fun f s W hW n q r u m => opv rfl rfl (by simp [go_sem, m.e 124 (n 8 rfl), m.e 126 (n 10 rfl), IntWalk.i64_in ((elT (xs at_).1 k) * (shF (elT acl k) dn)) (by omega)]) rfl,
  fun f s W hW n q r u m => opv rfl rfl (by simp [go_sem, m.e 17 k21_17, m.e 116 (n 0 rfl)]) rfl, trivial⟩ ?_
  clear hK27
  intro f22 s22 W22 hB22 g22 hg22
  have fB22 := hB22.f fB21
  have z22 := hB22.below.size
  have fA22 := hB22.f fA21
  have b22_3 := hB22.b b21_3
  have b22_4 := hB22.b b21_4
  have k22_4 := kt hg22 4 k21_4
  have k22_6 := kt hg22 6 k21_6
  have k22_7 := kt hg22 7 k21_7
  have k22_11 := kt hg22 11 k21_11
  have k22_12 := kt hg22 12 k21_12
  have k22_13 := kt hg22 13 k21_13
  have k22_14 := kt hg22 14 k21_14
  have k22_16 := kt hg22 16 k21_16
  have k22_17 := kt hg22 17 k21_17
  have k22_18 := kt hg22 18 k21_18
  have k22_80 := kt hg22 80 k21_80
  have k22_19 := kt hg22 19 k21_19
  have k22_106 := kt hg22 106 k21_106
  have k22_20 := kt hg22 20 k21_20
  have k22_115 := kt hg22 115 k21_115
  have k22_127 := kt hg22 127 (hB22.is 11)
  have k22_128 := kt hg22 128 (hB22.is 12)
  obtain ⟨W23, hW23⟩ : ∃ W', W' = W22.setRow (s15 1) #[.int .i64 ((elT (xs at_).1 k) * (shF (elT acl k) dn)), .int .i64 0, .int .i64 0] := ⟨_, rfl⟩
  refine tail_skip (o := _) rfl ⟨rfl, rfl⟩ (run_seg hW23 (fr_ev k22_128) (fr_ev k22_127) b22_3 rfl rfl rfl rfl) ?_
  obtain ⟨fB23, nb23, ot23, z23⟩ := seg_facts hW23 fB22 b22_3 (by omega)
  have fA23 := (seg_facts hW23 fA22 b22_3 (by omega)).1
  clear hW23
  have b23_4 := ot23 _ _ (by omega) b22_4
  refine wpOps_end ?_
  refine inBlock_normal ?_
  refine hK25 _ _ ?_
  refine region_dk 3 [(81, 0), (82, 1), (18, 2)] [[], [0], [0, 1]] (rel [is (.int .i64 0),
   is (.int .i64 1),
   is (.int .i64 1)])
   ⟨is_k, is_k, is_k, trivial⟩
   ⟨fun f s W hW n q r u m => opv rfl rfl (by simp [go_sem, m.e 18 ((r 2 18 rfl rfl).trans k22_18)]) rfl,
  fun f s W hW n q r u m => opv rfl rfl (by simp [go_sem, m.e 81 (n 0 rfl), IntWalk.i64_in (1) (by omega)]) rfl,
  fun f s W hW n q r u m => opv rfl rfl (by simp [go_sem, m.e 82 (n 1 rfl)]) rfl, trivial⟩ ?_
  clear b21_3 b21_4 b22_3 b22_4 fB21 fB22 hB22 hK25 hg22 k21_106 k21_11 k21_115 k21_12 k21_13 k21_14 k21_16 k21_17 k21_18 k21_19 k21_20 k21_4 k21_6 k21_7 k21_80 k22_18 ot23
  intro f24 s24 W24 hB24 g24 hg24
  have fB24 := hB24.f fB23
  have z24 := hB24.below.size
  have fA24 := hB24.f fA23
  have b24_3 := hB24.b nb23
  have b24_4 := hB24.b b23_4
  refine wpOps_end ?_
  have k24_4 := kt hg24 4 k22_4
  have k24_6 := kt hg24 6 k22_6
  have k24_7 := kt hg24 7 k22_7
  have k24_11 := kt hg24 11 k22_11
  have k24_12 := kt hg24 12 k22_12
  have k24_13 := kt hg24 13 k22_13
  have k24_14 := kt hg24 14 k22_14
  have k24_16 := kt hg24 16 k22_16
  have k24_17 := kt hg24 17 k22_17
  have k24_80 := kt hg24 80 k22_80
  have k24_19 := kt hg24 19 k22_19
  have k24_106 := kt hg24 106 k22_106
  have k24_20 := kt hg24 20 k22_20
  have k24_115 := kt hg24 115 k22_115
  have k24_127 := kt hg24 127 k22_127
  have k24_128 := kt hg24 128 k22_128
  have k24_18 := kt hg24 18 (hB24.is 2)
  refine then_normal ?_
  rw [rounds_succ]
  clear b23_4 fB23 hB24 hg24 k22_106 k22_11 k22_115 k22_12 k22_127 k22_128 k22_13 k22_14 k22_16 k22_17 k22_19 k22_20 k22_4 k22_6 k22_7 k22_80 k24_80 nb23
  refine wp_seq_k fun K30 hK30 => ?_
  refine wp_seq_k fun K31 hK31 => ?_
  refine region_dk 2 [(79, 0), (80, 1)] [[], [0]] (rel [is (.int .i64 1),
   is (.bool true)])
   ⟨is_k, is_k, trivial⟩
   ⟨fun f s W hW n q r u m => opv rfl rfl (by simp [go_sem, m.e 18 k24_18]) rfl,
  fun f s W hW n q r u m => opv rfl rfl (by simp [go_sem, m.e 79 (n 0 rfl)]) rfl, trivial⟩ ?_
  intro f25 s25 W25 hB25 g25 hg25
  have fB25 := hB25.f fB24
  have z25 := hB25.below.size
  have fA25 := hB25.f fA24
  have b25_3 := hB25.b b24_3
  have b25_4 := hB25.b b24_4
  refine hK31 _ _ ?_
  have k25_4 := kt hg25 4 k24_4
  have k25_6 := kt hg25 6 k24_6
  have k25_7 := kt hg25 7 k24_7
  have k25_11 := kt hg25 11 k24_11
  have k25_12 := kt hg25 12 k24_12
  have k25_13 := kt hg25 13 k24_13
  have k25_14 := kt hg25 14 k24_14
  have k25_16 := kt hg25 16 k24_16
  have k25_17 := kt hg25 17 k24_17
  have k25_19 := kt hg25 19 k24_19
  have k25_106 := kt hg25 106 k24_106
  have k25_20 := kt hg25 20 k24_20
  have k25_115 := kt hg25 115 k24_115
  have k25_127 := kt hg25 127 k24_127
  have k25_128 := kt hg25 128 k24_128
  have k25_18 := kt hg25 18 k24_18
  have k25_80 := kt hg25 80 (hB25.is 1)
  clear b24_3 b24_4 fB24 hB25 hK31 hg25 k24_106 k24_11 k24_115 k24_12 k24_127 k24_128 k24_13 k24_14 k24_16 k24_17 k24_18 k24_19 k24_20 k24_4 k24_6 k24_7 k25_106 k25_19 k25_20
  refine wp_cond_true ((fr_eval rfl).trans k25_80) ?_
  refine wp_skip ?_
  refine hK30 _ _ ?_
  clear hK30
  refine wp_seq_k fun K33 hK33 => ?_
  refine wp_block ?_
  refine wp_seq_k fun K34 hK34 => ?_
  refine region_doL (LeT (W25.heap.size) 33 (justC (#[.int .i64 ((shF (elT acl k) ((xs at_).2 - dn))), .int .i64 ((shF (elT acl k) ((xs at_).2 - dn)))]))) LeT.refl (LeT.drew justC_b) LeT.trans (fun _ _ h => h.size) 26 [(84, 0), (85, 1), (86, 2), (87, 3), (88, 4), (89, 5), (90, 6), (91, 7), (92, 8), (93, 9), (94, 10), (95, 11), (96, 12), (97, 13), (98, 14), (99, 15), (100, 16), (101, 17), (102, 18), (103, 19), (104, 20), (83, 21), (105, 22), (106, 23), (19, 24), (20, 26)] [[], [], [0, 1], [0, 1, 2], [], [], [], [5, 6], [5, 6, 7], [5, 6, 7, 8], [], [5, 6, 7, 8, 9, 10], [], [], [12, 13], [12, 13, 14], [12, 13, 14, 15], [4, 5, 6, 7, 8, 9, 10, 11, 12, 13, 14, 15, 16], [], [4, 5, 6, 7, 8, 9, 10, 11, 12, 13, 14, 15, 16, 17, 18], [0, 1, 2, 3, 4, 5, 6, 7, 8, 9, 10, 11, 12, 13, 14, 15, 16, 17, 18, 19], [0, 1, 2, 3, 4, 5, 6, 7, 8, 9, 10, 11, 12, 13, 14, 15, 16, 17, 18, 19, 20], [0, 1, 2, 3, 4, 5, 6, 7, 8, 9, 10, 11, 12, 13, 14, 15, 16, 17, 18, 19, 20, 21], [0, 1, 2, 3, 4, 5, 6, 7, 8, 9, 10, 11, 12, 13, 14, 15, 16, 17, 18, 19, 20, 21], [], [0, 1, 2, 3, 4, 5, 6, 7, 8, 9, 10, 11, 12, 13, 14, 15, 16, 17, 18, 19, 20, 21, 22, 24], [0, 1, 2, 3, 4, 5, 6, 7, 8, 9, 10, 11, 12, 13, 14, 15, 16, 17, 18, 19, 20, 21, 22, 23, 24, 25]] (rel [is (.slice (some ⟨g63', 0, none⟩) (3) (c64')),
   is (.int .i64 ((k : Int))),
   is (.pointer (some ⟨g63', k, none⟩)),
   is (.int .i64 ((elT (acl) k))),
   is (.int .i64 dn),
   is (.slice (a82') (2) (c83')),
   is (.int .i64 ((at_ : Int))),
   is (.pointer (some ⟨b84', o85' + at_ * 2, none⟩)),
   is (.pointer (some ⟨b84', o85' + at_ * 2 + 1, none⟩)),
   is (.int .i64 ((xs at_).2)),
   is (.int .i64 dn),
   is (.int .i64 (((xs at_).2) - dn)),
   is (.slice (a82') (2) (c83')),
   is (.int .i64 ((at_ : Int))),
   is (.pointer (some ⟨b84', o85' + at_ * 2, none⟩)),
   is (.pointer (some ⟨b84', o85' + at_ * 2 + 1, none⟩)),
   is (.int .i64 ((xs at_).2)),
   is (.agg #[.int .i64 dn, .int .i64 (((xs at_).2) - dn), .int .i64 ((xs at_).2)]),
   is (.int .i64 1),
   is (.int .i64 (((xs at_).2) - dn)),
   is (.tuple #[.agg #[.int .i64 ((shF (elT acl k) (((xs at_).2) - dn))), .int .i64 ((shF (elT acl k) (((xs at_).2) - dn)))], .int .i64 0]),
   is (.tuple #[.agg #[.int .i64 ((shF (elT acl k) (((xs at_).2) - dn))), .int .i64 ((shF (elT acl k) (((xs at_).2) - dn)))], .int .i64 0]),
   is (.agg #[.int .i64 ((shF (elT acl k) (((xs at_).2) - dn))), .int .i64 ((shF (elT acl k) (((xs at_).2) - dn)))]),
   is (.int .i64 0),
   boxT (W25.heap.size) 33 2 24,
   stoT (W25.heap.size) 33 (justC (#[.int .i64 ((shF (elT acl k) ((xs at_).2 - dn))), .int .i64 ((shF (elT acl k) ((xs at_).2 - dn)))])) 24]) (by kernel_rfl) (by kernel_rfl) (by kernel_rfl) (by kernel_rfl)
   ⟨is_kl, is_kl, is_kl, is_kl, is_kl, is_kl, is_kl, is_kl, is_kl, is_kl, is_kl, is_kl, is_kl, is_kl, is_kl, is_kl, is_kl, is_kl, is_kl, is_kl, is_kl, is_kl, is_kl, is_kl, boxT_k, stoT_k (by simp), trivial⟩
   ⟨fun f s W hT n q r u m => by have hW := LeT.below hT (Nat.le_refl _); exact OpDo.l (LeT.of_below justC_b) (opv rfl rfl (by simp [go_sem, m.e 6 k25_6]) rfl),
  fun f s W hT n q r u m => by have hW := LeT.below hT (Nat.le_refl _); exact OpDo.l (LeT.of_below justC_b) (opv rfl rfl (by simp [go_sem, m.e 16 k25_16]) rfl),
  fun f s W hT n q r u m => by have hW := LeT.below hT (Nat.le_refl _); exact OpDo.l (LeT.of_below justC_b) (by have li_ := Nat.not_le.2 (show k < 3 by omega); have li2_ : (k : Int) < 3 := (by omega); exact opv rfl rfl (by simp [go_sem, m.e 84 (n 0 rfl), m.e 85 (n 1 rfl), li_, li2_]) rfl),
  fun f s W hT n q r u m => by have hW := LeT.below hT (Nat.le_refl _); exact OpDo.l (LeT.of_below justC_b) (by have aW := below_trans fA25 hW; have cu_ := ii_at3 (q152'.below aW (Nat.le_refl _)) (show k < 3 by omega); exact opv rfl rfl (by simp [go_sem, m.e 86 (n 2 rfl), cu_]) rfl),
  fun f s W hT n q r u m => by have hW := LeT.below hT (Nat.le_refl _); exact OpDo.l (LeT.of_below justC_b) (opv rfl rfl (by simp [go_sem, m.e 13 k25_13]) rfl),
  fun f s W hT n q r u m => by have hW := LeT.below hT (Nat.le_refl _); exact OpDo.l (LeT.of_below justC_b) (opv rfl rfl (by simp [go_sem, m.e 11 k25_11]) rfl),
  fun f s W hT n q r u m => by have hW := LeT.below hT (Nat.le_refl _); exact OpDo.l (LeT.of_below justC_b) (opv rfl rfl (by simp [go_sem, m.e 12 k25_12]) rfl),
  fun f s W hT n q r u m => by have hW := LeT.below hT (Nat.le_refl _); exact OpDo.l (LeT.of_below justC_b) (by have li_ := Nat.not_le.2 (show at_ < 2 by omega); have li2_ : ((at_ : Nat) : Int) < 2 := (by omega); have hab := q158' (by decide); exact opv rfl rfl (by simp [go_sem, m.e 89 (n 5 rfl), m.e 90 (n 6 rfl), li_, li2_, hab]) rfl),
  fun f s W hT n q r u m => by have hW := LeT.below hT (Nat.le_refl _); exact OpDo.l (LeT.of_below justC_b) (opv rfl rfl (by simp [go_sem, m.e 91 (n 7 rfl)]) rfl),
  fun f s W hT n q r u m => by have hW := LeT.below hT (Nat.le_refl _); exact OpDo.l (LeT.of_below justC_b) (by have aW := below_trans fA25 hW; have cu_ := (q157'.below aW).2 at_ (by omega); have cu0_ := cu_.1; have cu1_ := cu_.2.1; exact opv rfl rfl (by simp [go_sem, m.e 92 (n 8 rfl), cu0_, cu1_]) rfl),
  fun f s W hT n q r u m => by have hW := LeT.below hT (Nat.le_refl _); exact OpDo.l (LeT.of_below justC_b) (opv rfl rfl (by simp [go_sem, m.e 13 k25_13]) rfl),
  fun f s W hT n q r u m => by have hW := LeT.below hT (Nat.le_refl _); exact OpDo.l (LeT.of_below justC_b) (opv rfl rfl (by simp [go_sem, m.e 93 (n 9 rfl), m.e 94 (n 10 rfl), IntWalk.i64_in (((xs at_).2) - dn) (by omega)]) rfl),
  fun f s W hT n q r u m => by have hW := LeT.below hT (Nat.le_refl _); exact OpDo.l (LeT.of_below justC_b) (opv rfl rfl (by simp [go_sem, m.e 11 k25_11]) rfl),
  fun f s W hT n q r u m => by have hW := LeT.below hT (Nat.le_refl _); exact OpDo.l (LeT.of_below justC_b) (opv rfl rfl (by simp [go_sem, m.e 12 k25_12]) rfl),
  fun f s W hT n q r u m => by have hW := LeT.below hT (Nat.le_refl _); exact OpDo.l (LeT.of_below justC_b) (by have li_ := Nat.not_le.2 (show at_ < 2 by omega); have li2_ : ((at_ : Nat) : Int) < 2 := (by omega); have hab := q158' (by decide); exact opv rfl rfl (by simp [go_sem, m.e 96 (n 12 rfl), m.e 97 (n 13 rfl), li_, li2_, hab]) rfl),
  fun f s W hT n q r u m => by have hW := LeT.below hT (Nat.le_refl _); exact OpDo.l (LeT.of_below justC_b) (opv rfl rfl (by simp [go_sem, m.e 98 (n 14 rfl)]) rfl),
  fun f s W hT n q r u m => by have hW := LeT.below hT (Nat.le_refl _); exact OpDo.l (LeT.of_below justC_b) (by have aW := below_trans fA25 hW; have cu_ := (q157'.below aW).2 at_ (by omega); have cu0_ := cu_.1; have cu1_ := cu_.2.1; exact opv rfl rfl (by simp [go_sem, m.e 99 (n 15 rfl), cu0_, cu1_]) rfl),
  fun f s W hT n q r u m => by have hW := LeT.below hT (Nat.le_refl _); exact OpDo.l (LeT.of_below justC_b) (opv rfl rfl (by simp [go_sem, m.e 88 (n 4 rfl), m.e 95 (n 11 rfl), m.e 100 (n 16 rfl)]) rfl),
  fun f s W hT n q r u m => by have hW := LeT.below hT (Nat.le_refl _); exact OpDo.l (LeT.of_below justC_b) (opv rfl rfl (by simp [go_sem, m.e 18 k25_18]) rfl),
  fun f s W hT n q r u m => by have hW := LeT.below hT (Nat.le_refl _); exact OpDo.l (LeT.of_below justC_b) (by have ix_ : ∀ W : World, (Instr.index 59 (.agg #[.int .i64 dn, .int .i64 (((xs at_).2) - dn), .int .i64 ((xs at_).2)]) (.int .i64 1)).run Try.prog W = .ok (.int .i64 (((xs at_).2) - dn)) W := fun W => (by kernel_rfl); exact opv rfl rfl (by simp [go_sem, m.e 101 (n 17 rfl), m.e 102 (n 18 rfl), ix_]) rfl),
  fun f s W hT n q r u m => by have hW := LeT.below hT (Nat.le_refl _); exact OpDo.l (LeT.of_below justC_b) (opDo_call (args := #[.int .i64 ((elT (acl) k)), .int .i64 (((xs at_).2) - dn), .int .i64 0]) rfl rfl (by simp [go_sem, m.e 87 (n 3 rfl), m.e 103 (n 19 rfl)]) (tr_Sheets ((elT (acl) k)) (((xs at_).2) - dn) 0 W hac_ (by omega) (by decide)) ((fun e W' h => by have h1 := h.1; rw [Int.add_zero, Int.sub_zero] at h1; exact ⟨_, h1, h.2, rfl⟩))),
  fun f s W hT n q r u m => by have hW := LeT.below hT (Nat.le_refl _); exact OpDo.l (LeT.of_below justC_b) (opv rfl rfl (by simp [go_sem, m.e 104 (n 20 rfl)]) rfl),
  fun f s W hT n q r u m => by have hW := LeT.below hT (Nat.le_refl _); exact OpDo.l (LeT.of_below justC_b) (opv rfl rfl (by simp [go_sem, m.e 83 (n 21 rfl)]) rfl),
  fun f s W hT n q r u m => by have hW := LeT.below hT (Nat.le_refl _); exact OpDo.l (LeT.of_below justC_b) (opv rfl rfl (by simp [go_sem, m.e 83 (n 21 rfl)]) rfl),
  fun f s W hT n q r u m => opT (cs := #[.int .i64 0, .int .i64 0]) justC_b (hT.size) rfl rfl (by simp [go_sem]) rfl,
  fun f s W hT n q r u m => by exact stoT_do (#[.int .i64 ((shF (elT acl k) ((xs at_).2 - dn))), .int .i64 ((shF (elT acl k) ((xs at_).2 - dn)))]) rfl (by decide) (n 24 rfl) (m.v 19 (n 24 rfl).1) (m.v 105 (n 22 rfl)) rfl rfl (by rfl) (by rfl) ((rfl : justC (#[.int .i64 ((shF (elT acl k) ((xs at_).2 - dn))), .int .i64 ((shF (elT acl k) ((xs at_).2 - dn)))]) (#[.int .i64 ((shF (elT acl k) ((xs at_).2 - dn))), .int .i64 ((shF (elT acl k) ((xs at_).2 - dn)))]) W)) (fun _ _ _ h => h) (fun _ _ _ _ _ h => h), trivial⟩ ?_
  intro f26 s26 W26 hB26
  have hb26 := LeT.below hB26.le (Nat.le_refl _)
  have fB26 := below_trans fB25 hb26
  have z26 : W25.heap.size ≤ W26.heap.size := hb26.size
  have fA26 := below_trans fA25 hb26
  have b26_3 := blk_below b25_3 hb26
  have b26_4 := blk_below b25_4 hb26
  obtain ⟨r26_24, lb26, -⟩ := hB26.is 24
  obtain ⟨-, cs26, bs26, hG26⟩ := hB26.is 25
  have hG26' : cs26 = #[.int .i64 ((shF (elT acl k) ((xs at_).2 - dn))), .int .i64 ((shF (elT acl k) ((xs at_).2 - dn)))] := hG26
  subst hG26'
  have lr26_24 : W25.heap.size ≤ s26 24 ∧ s26 24 < W26.heap.size := ⟨lb26, lt_of_blk bs26⟩
  generalize hg26 : ov [(84, 0), (85, 1), (86, 2), (87, 3), (88, 4), (89, 5), (90, 6), (91, 7), (92, 8), (93, 9), (94, 10), (95, 11), (96, 12), (97, 13), (98, 14), (99, 15), (100, 16), (101, 17), (102, 18), (103, 19), (104, 20), (83, 21), (105, 22), (106, 23), (19, 24), (20, 26)] f26 g25 = g26
  have k26_4 := kt hg26 4 k25_4
  have k26_6 := kt hg26 6 k25_6
  have k26_7 := kt hg26 7 k25_7
  have k26_11 := kt hg26 11 k25_11
  have k26_12 := kt hg26 12 k25_12
  have k26_13 := kt hg26 13 k25_13
  have k26_14 := kt hg26 14 k25_14
  have k26_16 := kt hg26 16 k25_16
  have k26_17 := kt hg26 17 k25_17
  have k26_115 := kt hg26 115 k25_115
  have k26_127 := kt hg26 127 k25_127
  have k26_128 := kt hg26 128 k25_128
  have k26_18 := kt hg26 18 k25_18
  have k26_80 := kt hg26 80 k25_80
  have k26_19 := kt hg26 19 r26_24
  have k26_106 := kt hg26 106 (hB26.is 23)
  refine tail_value (o := _) rfl rfl rfl (v := .int .i64 0) (by simp [go_sem, frv 217 k26_106]) ?_
  generalize hg27 : upd g26 20 (.int .i64 0) = g27
  have k27_4 := ku hg27 4 k26_4
  have k27_6 := ku hg27 6 k26_6
  have k27_7 := ku hg27 7 k26_7
  have k27_11 := ku hg27 11 k26_11
  have k27_12 := ku hg27 12 k26_12
  have k27_13 := ku hg27 13 k26_13
  have k27_14 := ku hg27 14 k26_14
  have k27_16 := ku hg27 16 k26_16
  have k27_17 := ku hg27 17 k26_17
  have k27_115 := ku hg27 115 k26_115
  have k27_127 := ku hg27 127 k26_127
  have k27_128 := ku hg27 128 k26_128
  have k27_18 := ku hg27 18 k26_18
  have k27_80 := ku hg27 80 k26_80
  have k27_19 := ku hg27 19 k26_19
  have k27_106 := ku hg27 106 k26_106
  have k27_20 := kt hg27 20 (upd_same _ _ _)
  refine wpOps_end ?_
  refine hK34 _ _ ?_
  clear b25_3 b25_4 fB25 hB26 hK34 hg26 hg27 k25_11 k25_115 k25_12 k25_127 k25_128 k25_13 k25_14 k25_16 k25_17 k25_18 k25_4 k25_6 k25_7 k25_80 k26_106 k26_11 k26_115 k26_12 k26_127 k26_128 k26_13 k26_14 k26_16 k26_17 k26_18 k26_19 k26_4 k26_6 k26_7 k26_80 k27_115 r26_24
  refine wp_seq_k fun K35 hK35 => ?_
  refine wp_seq_k fun K36 hK36 => ?_
  refine region_dk 9 [(107, 0), (108, 1), (109, 2), (110, 3), (111, 4), (112, 5), (113, 6), (114, 7), (115, 8)] [[], [0], [0, 1], [0, 1, 2], [0, 1, 2, 3], [0, 1, 2], [0, 1, 2, 5], [0, 1, 2, 3, 4, 5, 6], [0, 1, 2, 3, 4, 5, 6, 7]] (rel [is (.int .i64 0),
   is (.bool false),
   is (.bool false),
   is (.pointer (some ⟨(s26 24), 0, none⟩)),
   is (.int .i64 ((shF (elT acl k) ((xs at_).2 - dn)))),
   is (.pointer (some ⟨(s26 24), 1, none⟩)),
   is (.int .i64 ((shF (elT acl k) ((xs at_).2 - dn)))),
   is (.bool false),
   is (.bool false)])
   ⟨is_k, is_k, is_k, is_k, is_k, is_k, is_k, is_k, is_k, trivial⟩
   ⟨fun f s W hW n q r u m => opv rfl rfl (by simp [go_sem, m.e 20 k27_20]) rfl,
  fun f s W hW n q r u m => opv rfl rfl (by simp [go_sem, m.e 107 (n 0 rfl)]) rfl,
  fun f s W hW n q r u m => opv rfl rfl (by simp [go_sem, m.e 108 (n 1 rfl)]) rfl,
  fun f s W hW n q r u m => osure rfl rfl (m.says (d := 109) rfl rfl (n 2 rfl)) (gv (by simp [go_sem, m.e 19 k27_19]) rfl),
  fun f s W hW n q r u m => osure rfl rfl (m.says (d := 109) rfl rfl (n 2 rfl)) (gv (by simp [go_sem, m.e 110 (n 3 rfl), cb bs26 hW 0]) rfl),
  fun f s W hW n q r u m => osure rfl rfl (m.says (d := 109) rfl rfl (n 2 rfl)) (gv (by simp [go_sem, m.e 19 k27_19]) rfl),
  fun f s W hW n q r u m => osure rfl rfl (m.says (d := 109) rfl rfl (n 2 rfl)) (gv (by simp [go_sem, m.e 112 (n 5 rfl), cb bs26 hW 1]) rfl),
  fun f s W hW n q r u m => osure rfl rfl (m.says (d := 109) rfl rfl (n 2 rfl)) (gv (by simp [go_sem, m.e 111 (n 4 rfl), m.e 113 (n 6 rfl)]) rfl),
  fun f s W hW n q r u m => opk (c := false) rfl rfl (fun _ => by simp [go_sem, m.e 109 (n 2 rfl), m.e 114 (n 7 rfl)]) (fun h => absurd h (by decide)), trivial⟩ ?_
  intro f28 s28 W28 hB28 g28 hg28
  have fB28 := hB28.f fB26
  have z28 := hB28.below.size
  have fA28 := hB28.f fA26
  have b28_3 := hB28.b b26_3
  have b28_4 := hB28.b b26_4
  have b28_5 := hB28.b bs26
  refine hK36 _ _ ?_
  have k28_4 := kt hg28 4 k27_4
  have k28_6 := kt hg28 6 k27_6
  have k28_7 := kt hg28 7 k27_7
  have k28_11 := kt hg28 11 k27_11
  have k28_12 := kt hg28 12 k27_12
  have k28_13 := kt hg28 13 k27_13
  have k28_14 := kt hg28 14 k27_14
  have k28_16 := kt hg28 16 k27_16
  have k28_17 := kt hg28 17 k27_17
  have k28_127 := kt hg28 127 k27_127
  have k28_128 := kt hg28 128 k27_128
  have k28_18 := kt hg28 18 k27_18
  have k28_80 := kt hg28 80 k27_80
  have k28_19 := kt hg28 19 k27_19
  have k28_106 := kt hg28 106 k27_106
  have k28_20 := kt hg28 20 k27_20
  have k28_115 := kt hg28 115 (hB28.is 8)
  clear b26_3 b26_4 fB26 hB28 hK36 hg28 k27_106 k27_11 k27_12 k27_127 k27_128 k27_13 k27_14 k27_16 k27_17 k27_18 k27_19 k27_20 k27_4 k27_6 k27_7 k27_80 k28_127 k28_128
  refine wp_cond_false ((fr_eval rfl).trans k28_115) ?_
  refine wp_skip ?_
  refine hK35 _ _ ?_
  refine region_dk 13 [(116, 0), (117, 1), (118, 2), (119, 3), (120, 4), (121, 5), (122, 6), (123, 7), (124, 8), (125, 9), (126, 10), (127, 11), (128, 12)] [[], [], [], [1, 2], [1, 2, 3], [1, 2, 3, 4], [], [1, 2, 3, 4, 5, 6], [1, 2, 3, 4, 5, 6, 7], [], [9], [1, 2, 3, 4, 5, 6, 7, 8, 9, 10], [0, 1, 2, 3, 4, 5, 6, 7, 8, 9, 10, 11], [0, 1, 2, 3, 4, 5, 6, 7, 8, 9, 10, 11, 12]] (rel [is (.int .i64 1),
   is (.slice (a82') (2) (c83')),
   is (.int .i64 ((at_ : Int))),
   is (.pointer (some ⟨b84', o85' + at_ * 2, none⟩)),
   is (.pointer (some ⟨b84', o85' + at_ * 2, none⟩)),
   is (.slice ((ad86' at_)) ((xs at_).1.length) ((cp87' at_))),
   is (.int .i64 ((k : Int))),
   is (.pointer (some ⟨bwat_, owat_ + k, none⟩)),
   is (.int .i64 ((elT (xs at_).1 k))),
   is (.pointer (some ⟨(s26 24), 0, none⟩)),
   is (.int .i64 ((shF (elT acl k) ((xs at_).2 - dn)))),
   is (.int .i64 ((elT (xs at_).1 k) * (shF (elT acl k) ((xs at_).2 - dn)))),
   is (.pointer (some ⟨(s15 1), 1, none⟩))])
   ⟨is_k, is_k, is_k, is_k, is_k, is_k, is_k, is_k, is_k, is_k, is_k, is_k, is_k, trivial⟩
   ⟨fun f s W hW n q r u m => opv rfl rfl (by simp [go_sem, m.e 18 k28_18]) rfl,
  fun f s W hW n q r u m => opv rfl rfl (by simp [go_sem, m.e 11 k28_11]) rfl,
  fun f s W hW n q r u m => opv rfl rfl (by simp [go_sem, m.e 12 k28_12]) rfl,
  fun f s W hW n q r u m => by have li_ := Nat.not_le.2 (show at_ < 2 by omega); have li2_ : ((at_ : Nat) : Int) < 2 := (by omega); have hab := q158' (by decide); exact opv rfl rfl (by simp [go_sem, m.e 117 (n 1 rfl), m.e 118 (n 2 rfl), li_, li2_, hab]) rfl,
  fun f s W hW n q r u m => opv rfl rfl (by simp [go_sem, m.e 119 (n 3 rfl)]) rfl,
  fun f s W hW n q r u m => by have aW := below_trans fA28 hW; have cu_ := (q157'.below aW).2 at_ (by omega); have cu0_ := cu_.1; have cu1_ := cu_.2.1; exact opv rfl rfl (by simp [go_sem, m.e 120 (n 4 rfl), cu0_, cu1_]) rfl,
  fun f s W hW n q r u m => opv rfl rfl (by simp [go_sem, m.e 16 k28_16]) rfl,
  fun f s W hW n q r u m => by have hab := hwat_; have li_ := Nat.not_le.2 (show k < (xs at_).1.length by rw [hg.ln at_ (by omega)]; omega); have li2_ : (k : Int) < ((xs at_).1.length : Int) := (by rw [hg.ln at_ (by omega)]; omega); exact opv rfl rfl (by simp [go_sem, m.e 121 (n 5 rfl), m.e 122 (n 6 rfl), hab, li_, li2_]) rfl,
  fun f s W hW n q r u m => by have aW := below_trans fA28 hW; have cu_ := ii_atn ((q157'.below aW).2 at_ (by omega)).2.2 hwat_ (show k < (xs at_).1.length by rw [hg.ln at_ (by omega)]; omega); exact opv rfl rfl (by simp [go_sem, m.e 123 (n 7 rfl), cu_]) rfl,
  fun f s W hW n q r u m => opv rfl rfl (by simp [go_sem, m.e 19 k28_19]) rfl,
  fun f s W hW n q r u m => opv rfl rfl (by simp [go_sem, m.e 125 (n 9 rfl), cb b28_5 hW 0]) rfl,
  fun f s W hW n q r u m => opv rfl rfl (by simp [go_sem, m.e 124 (n 8 rfl), m.e 126 (n 10 rfl), IntWalk.i64_in ((elT (xs at_).1 k) * (shF (elT acl k) ((xs at_).2 - dn))) (by omega)]) rfl,
  fun f s W hW n q r u m => opv rfl rfl (by simp [go_sem, m.e 17 k28_17, m.e 116 (n 0 rfl)]) rfl, trivial⟩ ?_
  clear hK35
  intro f29 s29 W29 hB29 g29 hg29
  have fB29 := hB29.f fB28
  have z29 := hB29.below.size
  have fA29 := hB29.f fA28
  have b29_3 := hB29.b b28_3
  have b29_4 := hB29.b b28_4
  have b29_5 := hB29.b b28_5
  have k29_4 := kt hg29 4 k28_4
  have k29_6 := kt hg29 6 k28_6
  have k29_7 := kt hg29 7 k28_7
  have k29_11 := kt hg29 11 k28_11
  have k29_12 := kt hg29 12 k28_12
  have k29_13 := kt hg29 13 k28_13
  have k29_14 := kt hg29 14 k28_14
  have k29_16 := kt hg29 16 k28_16
  have k29_17 := kt hg29 17 k28_17
  have k29_18 := kt hg29 18 k28_18
  have k29_80 := kt hg29 80 k28_80
  have k29_19 := kt hg29 19 k28_19
  have k29_106 := kt hg29 106 k28_106
  have k29_20 := kt hg29 20 k28_20
  have k29_115 := kt hg29 115 k28_115
  have k29_127 := kt hg29 127 (hB29.is 11)
  have k29_128 := kt hg29 128 (hB29.is 12)
  obtain ⟨W30, hW30⟩ : ∃ W', W' = W29.setRow (s15 1) #[.int .i64 ((elT (xs at_).1 k) * (shF (elT acl k) dn)), .int .i64 ((elT (xs at_).1 k) * (shF (elT acl k) ((xs at_).2 - dn))), .int .i64 0] := ⟨_, rfl⟩
  refine tail_skip (o := _) rfl ⟨rfl, rfl⟩ (run_seg hW30 (fr_ev k29_128) (fr_ev k29_127) b29_3 rfl rfl rfl rfl) ?_
  obtain ⟨fB30, nb30, ot30, z30⟩ := seg_facts hW30 fB29 b29_3 (by omega)
  have fA30 := (seg_facts hW30 fA29 b29_3 (by omega)).1
  clear hW30
  have b30_4 := ot30 _ _ (by omega) b29_4
  have b30_5 := ot30 _ _ (by omega) b29_5
  refine wpOps_end ?_
  refine inBlock_normal ?_
  refine hK33 _ _ ?_
  refine region_dk 3 [(81, 0), (82, 1), (18, 2)] [[], [0], [0, 1]] (rel [is (.int .i64 1),
   is (.int .i64 2),
   is (.int .i64 2)])
   ⟨is_k, is_k, is_k, trivial⟩
   ⟨fun f s W hW n q r u m => opv rfl rfl (by simp [go_sem, m.e 18 ((r 2 18 rfl rfl).trans k29_18)]) rfl,
  fun f s W hW n q r u m => opv rfl rfl (by simp [go_sem, m.e 81 (n 0 rfl), IntWalk.i64_in (2) (by omega)]) rfl,
  fun f s W hW n q r u m => opv rfl rfl (by simp [go_sem, m.e 82 (n 1 rfl)]) rfl, trivial⟩ ?_
  clear b28_3 b28_4 b28_5 b29_3 b29_4 b29_5 fB28 fB29 hB29 hK33 hg29 k28_106 k28_11 k28_115 k28_12 k28_13 k28_14 k28_16 k28_17 k28_18 k28_19 k28_20 k28_4 k28_6 k28_7 k28_80 k29_18 ot30
  intro f31 s31 W31 hB31 g31 hg31
  have fB31 := hB31.f fB30
  have z31 := hB31.below.size
  have fA31 := hB31.f fA30
  have b31_3 := hB31.b nb30
  have b31_4 := hB31.b b30_4
  have b31_5 := hB31.b b30_5
  refine wpOps_end ?_
  have k31_4 := kt hg31 4 k29_4
  have k31_6 := kt hg31 6 k29_6
  have k31_7 := kt hg31 7 k29_7
  have k31_11 := kt hg31 11 k29_11
  have k31_12 := kt hg31 12 k29_12
  have k31_13 := kt hg31 13 k29_13
  have k31_14 := kt hg31 14 k29_14
  have k31_16 := kt hg31 16 k29_16
  have k31_17 := kt hg31 17 k29_17
  have k31_80 := kt hg31 80 k29_80
  have k31_19 := kt hg31 19 k29_19
  have k31_106 := kt hg31 106 k29_106
  have k31_20 := kt hg31 20 k29_20
  have k31_115 := kt hg31 115 k29_115
  have k31_127 := kt hg31 127 k29_127
  have k31_128 := kt hg31 128 k29_128
  have k31_18 := kt hg31 18 (hB31.is 2)
  refine then_normal ?_
  rw [rounds_succ]
  clear b30_4 b30_5 fB30 hB31 hg31 k29_106 k29_11 k29_115 k29_12 k29_127 k29_128 k29_13 k29_14 k29_16 k29_17 k29_19 k29_20 k29_4 k29_6 k29_7 k29_80 k31_80 nb30
  refine wp_seq_k fun K38 hK38 => ?_
  refine wp_seq_k fun K39 hK39 => ?_
  refine region_dk 2 [(79, 0), (80, 1)] [[], [0]] (rel [is (.int .i64 2),
   is (.bool true)])
   ⟨is_k, is_k, trivial⟩
   ⟨fun f s W hW n q r u m => opv rfl rfl (by simp [go_sem, m.e 18 k31_18]) rfl,
  fun f s W hW n q r u m => opv rfl rfl (by simp [go_sem, m.e 79 (n 0 rfl)]) rfl, trivial⟩ ?_
  intro f32 s32 W32 hB32 g32 hg32
  have fB32 := hB32.f fB31
  have z32 := hB32.below.size
  have fA32 := hB32.f fA31
  have b32_3 := hB32.b b31_3
  have b32_4 := hB32.b b31_4
  have b32_5 := hB32.b b31_5
  refine hK39 _ _ ?_
  have k32_4 := kt hg32 4 k31_4
  have k32_6 := kt hg32 6 k31_6
  have k32_7 := kt hg32 7 k31_7
  have k32_11 := kt hg32 11 k31_11
  have k32_12 := kt hg32 12 k31_12
  have k32_13 := kt hg32 13 k31_13
  have k32_14 := kt hg32 14 k31_14
  have k32_16 := kt hg32 16 k31_16
  have k32_17 := kt hg32 17 k31_17
  have k32_19 := kt hg32 19 k31_19
  have k32_106 := kt hg32 106 k31_106
  have k32_20 := kt hg32 20 k31_20
  have k32_115 := kt hg32 115 k31_115
  have k32_127 := kt hg32 127 k31_127
  have k32_128 := kt hg32 128 k31_128
  have k32_18 := kt hg32 18 k31_18
  have k32_80 := kt hg32 80 (hB32.is 1)
  clear b31_3 b31_4 b31_5 fB31 hB32 hK39 hg32 k31_106 k31_11 k31_115 k31_12 k31_127 k31_128 k31_13 k31_14 k31_16 k31_17 k31_18 k31_19 k31_20 k31_4 k31_6 k31_7 k32_106 k32_19 k32_20
  refine wp_cond_true ((fr_eval rfl).trans k32_80) ?_
  refine wp_skip ?_
  refine hK38 _ _ ?_
  clear hK38
  refine wp_seq_k fun K41 hK41 => ?_
  refine wp_block ?_
  refine wp_seq_k fun K42 hK42 => ?_
  refine region_doL (LeT (W32.heap.size) 33 (justC (#[.int .i64 ((shF (elT acl k) (xs at_).2)), .int .i64 ((shF (elT acl k) (xs at_).2))]))) LeT.refl (LeT.drew justC_b) LeT.trans (fun _ _ h => h.size) 26 [(84, 0), (85, 1), (86, 2), (87, 3), (88, 4), (89, 5), (90, 6), (91, 7), (92, 8), (93, 9), (94, 10), (95, 11), (96, 12), (97, 13), (98, 14), (99, 15), (100, 16), (101, 17), (102, 18), (103, 19), (104, 20), (83, 21), (105, 22), (106, 23), (19, 24), (20, 26)] [[], [], [0, 1], [0, 1, 2], [], [], [], [5, 6], [5, 6, 7], [5, 6, 7, 8], [], [5, 6, 7, 8, 9, 10], [], [], [12, 13], [12, 13, 14], [12, 13, 14, 15], [4, 5, 6, 7, 8, 9, 10, 11, 12, 13, 14, 15, 16], [], [4, 5, 6, 7, 8, 9, 10, 11, 12, 13, 14, 15, 16, 17, 18], [0, 1, 2, 3, 4, 5, 6, 7, 8, 9, 10, 11, 12, 13, 14, 15, 16, 17, 18, 19], [0, 1, 2, 3, 4, 5, 6, 7, 8, 9, 10, 11, 12, 13, 14, 15, 16, 17, 18, 19, 20], [0, 1, 2, 3, 4, 5, 6, 7, 8, 9, 10, 11, 12, 13, 14, 15, 16, 17, 18, 19, 20, 21], [0, 1, 2, 3, 4, 5, 6, 7, 8, 9, 10, 11, 12, 13, 14, 15, 16, 17, 18, 19, 20, 21], [], [0, 1, 2, 3, 4, 5, 6, 7, 8, 9, 10, 11, 12, 13, 14, 15, 16, 17, 18, 19, 20, 21, 22, 24], [0, 1, 2, 3, 4, 5, 6, 7, 8, 9, 10, 11, 12, 13, 14, 15, 16, 17, 18, 19, 20, 21, 22, 23, 24, 25]] (rel [is (.slice (some ⟨g63', 0, none⟩) (3) (c64')),
   is (.int .i64 ((k : Int))),
   is (.pointer (some ⟨g63', k, none⟩)),
   is (.int .i64 ((elT (acl) k))),
   is (.int .i64 dn),
   is (.slice (a82') (2) (c83')),
   is (.int .i64 ((at_ : Int))),
   is (.pointer (some ⟨b84', o85' + at_ * 2, none⟩)),
   is (.pointer (some ⟨b84', o85' + at_ * 2 + 1, none⟩)),
   is (.int .i64 ((xs at_).2)),
   is (.int .i64 dn),
   is (.int .i64 (((xs at_).2) - dn)),
   is (.slice (a82') (2) (c83')),
   is (.int .i64 ((at_ : Int))),
   is (.pointer (some ⟨b84', o85' + at_ * 2, none⟩)),
   is (.pointer (some ⟨b84', o85' + at_ * 2 + 1, none⟩)),
   is (.int .i64 ((xs at_).2)),
   is (.agg #[.int .i64 dn, .int .i64 (((xs at_).2) - dn), .int .i64 ((xs at_).2)]),
   is (.int .i64 2),
   is (.int .i64 ((xs at_).2)),
   is (.tuple #[.agg #[.int .i64 ((shF (elT acl k) ((xs at_).2))), .int .i64 ((shF (elT acl k) ((xs at_).2)))], .int .i64 0]),
   is (.tuple #[.agg #[.int .i64 ((shF (elT acl k) ((xs at_).2))), .int .i64 ((shF (elT acl k) ((xs at_).2)))], .int .i64 0]),
   is (.agg #[.int .i64 ((shF (elT acl k) ((xs at_).2))), .int .i64 ((shF (elT acl k) ((xs at_).2)))]),
   is (.int .i64 0),
   boxT (W32.heap.size) 33 2 24,
   stoT (W32.heap.size) 33 (justC (#[.int .i64 ((shF (elT acl k) (xs at_).2)), .int .i64 ((shF (elT acl k) (xs at_).2))])) 24]) (by kernel_rfl) (by kernel_rfl) (by kernel_rfl) (by kernel_rfl)
   ⟨is_kl, is_kl, is_kl, is_kl, is_kl, is_kl, is_kl, is_kl, is_kl, is_kl, is_kl, is_kl, is_kl, is_kl, is_kl, is_kl, is_kl, is_kl, is_kl, is_kl, is_kl, is_kl, is_kl, is_kl, boxT_k, stoT_k (by simp), trivial⟩
   ⟨fun f s W hT n q r u m => by have hW := LeT.below hT (Nat.le_refl _); exact OpDo.l (LeT.of_below justC_b) (opv rfl rfl (by simp [go_sem, m.e 6 k32_6]) rfl),
  fun f s W hT n q r u m => by have hW := LeT.below hT (Nat.le_refl _); exact OpDo.l (LeT.of_below justC_b) (opv rfl rfl (by simp [go_sem, m.e 16 k32_16]) rfl),
  fun f s W hT n q r u m => by have hW := LeT.below hT (Nat.le_refl _); exact OpDo.l (LeT.of_below justC_b) (by have li_ := Nat.not_le.2 (show k < 3 by omega); have li2_ : (k : Int) < 3 := (by omega); exact opv rfl rfl (by simp [go_sem, m.e 84 (n 0 rfl), m.e 85 (n 1 rfl), li_, li2_]) rfl),
  fun f s W hT n q r u m => by have hW := LeT.below hT (Nat.le_refl _); exact OpDo.l (LeT.of_below justC_b) (by have aW := below_trans fA32 hW; have cu_ := ii_at3 (q152'.below aW (Nat.le_refl _)) (show k < 3 by omega); exact opv rfl rfl (by simp [go_sem, m.e 86 (n 2 rfl), cu_]) rfl),
  fun f s W hT n q r u m => by have hW := LeT.below hT (Nat.le_refl _); exact OpDo.l (LeT.of_below justC_b) (opv rfl rfl (by simp [go_sem, m.e 13 k32_13]) rfl),
  fun f s W hT n q r u m => by have hW := LeT.below hT (Nat.le_refl _); exact OpDo.l (LeT.of_below justC_b) (opv rfl rfl (by simp [go_sem, m.e 11 k32_11]) rfl),
  fun f s W hT n q r u m => by have hW := LeT.below hT (Nat.le_refl _); exact OpDo.l (LeT.of_below justC_b) (opv rfl rfl (by simp [go_sem, m.e 12 k32_12]) rfl),
  fun f s W hT n q r u m => by have hW := LeT.below hT (Nat.le_refl _); exact OpDo.l (LeT.of_below justC_b) (by have li_ := Nat.not_le.2 (show at_ < 2 by omega); have li2_ : ((at_ : Nat) : Int) < 2 := (by omega); have hab := q158' (by decide); exact opv rfl rfl (by simp [go_sem, m.e 89 (n 5 rfl), m.e 90 (n 6 rfl), li_, li2_, hab]) rfl),
  fun f s W hT n q r u m => by have hW := LeT.below hT (Nat.le_refl _); exact OpDo.l (LeT.of_below justC_b) (opv rfl rfl (by simp [go_sem, m.e 91 (n 7 rfl)]) rfl),
  fun f s W hT n q r u m => by have hW := LeT.below hT (Nat.le_refl _); exact OpDo.l (LeT.of_below justC_b) (by have aW := below_trans fA32 hW; have cu_ := (q157'.below aW).2 at_ (by omega); have cu0_ := cu_.1; have cu1_ := cu_.2.1; exact opv rfl rfl (by simp [go_sem, m.e 92 (n 8 rfl), cu0_, cu1_]) rfl),
  fun f s W hT n q r u m => by have hW := LeT.below hT (Nat.le_refl _); exact OpDo.l (LeT.of_below justC_b) (opv rfl rfl (by simp [go_sem, m.e 13 k32_13]) rfl),
  fun f s W hT n q r u m => by have hW := LeT.below hT (Nat.le_refl _); exact OpDo.l (LeT.of_below justC_b) (opv rfl rfl (by simp [go_sem, m.e 93 (n 9 rfl), m.e 94 (n 10 rfl), IntWalk.i64_in (((xs at_).2) - dn) (by omega)]) rfl),
  fun f s W hT n q r u m => by have hW := LeT.below hT (Nat.le_refl _); exact OpDo.l (LeT.of_below justC_b) (opv rfl rfl (by simp [go_sem, m.e 11 k32_11]) rfl),
  fun f s W hT n q r u m => by have hW := LeT.below hT (Nat.le_refl _); exact OpDo.l (LeT.of_below justC_b) (opv rfl rfl (by simp [go_sem, m.e 12 k32_12]) rfl),
  fun f s W hT n q r u m => by have hW := LeT.below hT (Nat.le_refl _); exact OpDo.l (LeT.of_below justC_b) (by have li_ := Nat.not_le.2 (show at_ < 2 by omega); have li2_ : ((at_ : Nat) : Int) < 2 := (by omega); have hab := q158' (by decide); exact opv rfl rfl (by simp [go_sem, m.e 96 (n 12 rfl), m.e 97 (n 13 rfl), li_, li2_, hab]) rfl),
  fun f s W hT n q r u m => by have hW := LeT.below hT (Nat.le_refl _); exact OpDo.l (LeT.of_below justC_b) (opv rfl rfl (by simp [go_sem, m.e 98 (n 14 rfl)]) rfl),
  fun f s W hT n q r u m => by have hW := LeT.below hT (Nat.le_refl _); exact OpDo.l (LeT.of_below justC_b) (by have aW := below_trans fA32 hW; have cu_ := (q157'.below aW).2 at_ (by omega); have cu0_ := cu_.1; have cu1_ := cu_.2.1; exact opv rfl rfl (by simp [go_sem, m.e 99 (n 15 rfl), cu0_, cu1_]) rfl),
  fun f s W hT n q r u m => by have hW := LeT.below hT (Nat.le_refl _); exact OpDo.l (LeT.of_below justC_b) (opv rfl rfl (by simp [go_sem, m.e 88 (n 4 rfl), m.e 95 (n 11 rfl), m.e 100 (n 16 rfl)]) rfl),
  fun f s W hT n q r u m => by have hW := LeT.below hT (Nat.le_refl _); exact OpDo.l (LeT.of_below justC_b) (opv rfl rfl (by simp [go_sem, m.e 18 k32_18]) rfl),
  fun f s W hT n q r u m => by have hW := LeT.below hT (Nat.le_refl _); exact OpDo.l (LeT.of_below justC_b) (by have ix_ : ∀ W : World, (Instr.index 59 (.agg #[.int .i64 dn, .int .i64 (((xs at_).2) - dn), .int .i64 ((xs at_).2)]) (.int .i64 2)).run Try.prog W = .ok (.int .i64 ((xs at_).2)) W := fun W => (by kernel_rfl); exact opv rfl rfl (by simp [go_sem, m.e 101 (n 17 rfl), m.e 102 (n 18 rfl), ix_]) rfl),
  fun f s W hT n q r u m => by have hW := LeT.below hT (Nat.le_refl _); exact OpDo.l (LeT.of_below justC_b) (opDo_call (args := #[.int .i64 ((elT (acl) k)), .int .i64 ((xs at_).2), .int .i64 0]) rfl rfl (by simp [go_sem, m.e 87 (n 3 rfl), m.e 103 (n 19 rfl)]) (tr_Sheets ((elT (acl) k)) ((xs at_).2) 0 W hac_ (by omega) (by decide)) ((fun e W' h => by have h1 := h.1; rw [Int.add_zero, Int.sub_zero] at h1; exact ⟨_, h1, h.2, rfl⟩))),
  fun f s W hT n q r u m => by have hW := LeT.below hT (Nat.le_refl _); exact OpDo.l (LeT.of_below justC_b) (opv rfl rfl (by simp [go_sem, m.e 104 (n 20 rfl)]) rfl),
  fun f s W hT n q r u m => by have hW := LeT.below hT (Nat.le_refl _); exact OpDo.l (LeT.of_below justC_b) (opv rfl rfl (by simp [go_sem, m.e 83 (n 21 rfl)]) rfl),
  fun f s W hT n q r u m => by have hW := LeT.below hT (Nat.le_refl _); exact OpDo.l (LeT.of_below justC_b) (opv rfl rfl (by simp [go_sem, m.e 83 (n 21 rfl)]) rfl),
  fun f s W hT n q r u m => opT (cs := #[.int .i64 0, .int .i64 0]) justC_b (hT.size) rfl rfl (by simp [go_sem]) rfl,
  fun f s W hT n q r u m => by exact stoT_do (#[.int .i64 ((shF (elT acl k) (xs at_).2)), .int .i64 ((shF (elT acl k) (xs at_).2))]) rfl (by decide) (n 24 rfl) (m.v 19 (n 24 rfl).1) (m.v 105 (n 22 rfl)) rfl rfl (by rfl) (by rfl) ((rfl : justC (#[.int .i64 ((shF (elT acl k) (xs at_).2)), .int .i64 ((shF (elT acl k) (xs at_).2))]) (#[.int .i64 ((shF (elT acl k) (xs at_).2)), .int .i64 ((shF (elT acl k) (xs at_).2))]) W)) (fun _ _ _ h => h) (fun _ _ _ _ _ h => h), trivial⟩ ?_
  intro f33 s33 W33 hB33
  have hb33 := LeT.below hB33.le (Nat.le_refl _)
  have fB33 := below_trans fB32 hb33
  have z33 : W32.heap.size ≤ W33.heap.size := hb33.size
  have fA33 := below_trans fA32 hb33
  have b33_3 := blk_below b32_3 hb33
  have b33_4 := blk_below b32_4 hb33
  have b33_5 := blk_below b32_5 hb33
  obtain ⟨r33_24, lb33, -⟩ := hB33.is 24
  obtain ⟨-, cs33, bs33, hG33⟩ := hB33.is 25
  have hG33' : cs33 = #[.int .i64 ((shF (elT acl k) (xs at_).2)), .int .i64 ((shF (elT acl k) (xs at_).2))] := hG33
  subst hG33'
  have lr33_24 : W32.heap.size ≤ s33 24 ∧ s33 24 < W33.heap.size := ⟨lb33, lt_of_blk bs33⟩
  generalize hg33 : ov [(84, 0), (85, 1), (86, 2), (87, 3), (88, 4), (89, 5), (90, 6), (91, 7), (92, 8), (93, 9), (94, 10), (95, 11), (96, 12), (97, 13), (98, 14), (99, 15), (100, 16), (101, 17), (102, 18), (103, 19), (104, 20), (83, 21), (105, 22), (106, 23), (19, 24), (20, 26)] f33 g32 = g33
  have k33_4 := kt hg33 4 k32_4
  have k33_6 := kt hg33 6 k32_6
  have k33_7 := kt hg33 7 k32_7
  have k33_11 := kt hg33 11 k32_11
  have k33_12 := kt hg33 12 k32_12
  have k33_13 := kt hg33 13 k32_13
  have k33_14 := kt hg33 14 k32_14
  have k33_16 := kt hg33 16 k32_16
  have k33_17 := kt hg33 17 k32_17
  have k33_115 := kt hg33 115 k32_115
  have k33_127 := kt hg33 127 k32_127
  have k33_128 := kt hg33 128 k32_128
  have k33_18 := kt hg33 18 k32_18
  have k33_80 := kt hg33 80 k32_80
  have k33_19 := kt hg33 19 r33_24
  have k33_106 := kt hg33 106 (hB33.is 23)
  refine tail_value (o := _) rfl rfl rfl (v := .int .i64 0) (by simp [go_sem, frv 217 k33_106]) ?_
  generalize hg34 : upd g33 20 (.int .i64 0) = g34
  have k34_4 := ku hg34 4 k33_4
  have k34_6 := ku hg34 6 k33_6
  have k34_7 := ku hg34 7 k33_7
  have k34_11 := ku hg34 11 k33_11
  have k34_12 := ku hg34 12 k33_12
  have k34_13 := ku hg34 13 k33_13
  have k34_14 := ku hg34 14 k33_14
  have k34_16 := ku hg34 16 k33_16
  have k34_17 := ku hg34 17 k33_17
  have k34_115 := ku hg34 115 k33_115
  have k34_127 := ku hg34 127 k33_127
  have k34_128 := ku hg34 128 k33_128
  have k34_18 := ku hg34 18 k33_18
  have k34_80 := ku hg34 80 k33_80
  have k34_19 := ku hg34 19 k33_19
  have k34_106 := ku hg34 106 k33_106
  have k34_20 := kt hg34 20 (upd_same _ _ _)
  refine wpOps_end ?_
  refine hK42 _ _ ?_
  clear b32_3 b32_4 b32_5 fB32 hB33 hK42 hg33 hg34 k32_11 k32_115 k32_12 k32_127 k32_128 k32_13 k32_14 k32_16 k32_17 k32_18 k32_4 k32_6 k32_7 k32_80 k33_106 k33_11 k33_115 k33_12 k33_127 k33_128 k33_13 k33_14 k33_16 k33_17 k33_18 k33_19 k33_4 k33_6 k33_7 k33_80 k34_115 r33_24
  refine wp_seq_k fun K43 hK43 => ?_
  refine wp_seq_k fun K44 hK44 => ?_
  refine region_dk 9 [(107, 0), (108, 1), (109, 2), (110, 3), (111, 4), (112, 5), (113, 6), (114, 7), (115, 8)] [[], [0], [0, 1], [0, 1, 2], [0, 1, 2, 3], [0, 1, 2], [0, 1, 2, 5], [0, 1, 2, 3, 4, 5, 6], [0, 1, 2, 3, 4, 5, 6, 7]] (rel [is (.int .i64 0),
   is (.bool false),
   is (.bool false),
   is (.pointer (some ⟨(s33 24), 0, none⟩)),
   is (.int .i64 ((shF (elT acl k) (xs at_).2))),
   is (.pointer (some ⟨(s33 24), 1, none⟩)),
   is (.int .i64 ((shF (elT acl k) (xs at_).2))),
   is (.bool false),
   is (.bool false)])
   ⟨is_k, is_k, is_k, is_k, is_k, is_k, is_k, is_k, is_k, trivial⟩
   ⟨fun f s W hW n q r u m => opv rfl rfl (by simp [go_sem, m.e 20 k34_20]) rfl,
  fun f s W hW n q r u m => opv rfl rfl (by simp [go_sem, m.e 107 (n 0 rfl)]) rfl,
  fun f s W hW n q r u m => opv rfl rfl (by simp [go_sem, m.e 108 (n 1 rfl)]) rfl,
  fun f s W hW n q r u m => osure rfl rfl (m.says (d := 109) rfl rfl (n 2 rfl)) (gv (by simp [go_sem, m.e 19 k34_19]) rfl),
  fun f s W hW n q r u m => osure rfl rfl (m.says (d := 109) rfl rfl (n 2 rfl)) (gv (by simp [go_sem, m.e 110 (n 3 rfl), cb bs33 hW 0]) rfl),
  fun f s W hW n q r u m => osure rfl rfl (m.says (d := 109) rfl rfl (n 2 rfl)) (gv (by simp [go_sem, m.e 19 k34_19]) rfl),
  fun f s W hW n q r u m => osure rfl rfl (m.says (d := 109) rfl rfl (n 2 rfl)) (gv (by simp [go_sem, m.e 112 (n 5 rfl), cb bs33 hW 1]) rfl),
  fun f s W hW n q r u m => osure rfl rfl (m.says (d := 109) rfl rfl (n 2 rfl)) (gv (by simp [go_sem, m.e 111 (n 4 rfl), m.e 113 (n 6 rfl)]) rfl),
  fun f s W hW n q r u m => opk (c := false) rfl rfl (fun _ => by simp [go_sem, m.e 109 (n 2 rfl), m.e 114 (n 7 rfl)]) (fun h => absurd h (by decide)), trivial⟩ ?_
  intro f35 s35 W35 hB35 g35 hg35
  have fB35 := hB35.f fB33
  have z35 := hB35.below.size
  have fA35 := hB35.f fA33
  have b35_3 := hB35.b b33_3
  have b35_4 := hB35.b b33_4
  have b35_5 := hB35.b b33_5
  have b35_6 := hB35.b bs33
  refine hK44 _ _ ?_
  have k35_4 := kt hg35 4 k34_4
  have k35_6 := kt hg35 6 k34_6
  have k35_7 := kt hg35 7 k34_7
  have k35_11 := kt hg35 11 k34_11
  have k35_12 := kt hg35 12 k34_12
  have k35_13 := kt hg35 13 k34_13
  have k35_14 := kt hg35 14 k34_14
  have k35_16 := kt hg35 16 k34_16
  have k35_17 := kt hg35 17 k34_17
  have k35_127 := kt hg35 127 k34_127
  have k35_128 := kt hg35 128 k34_128
  have k35_18 := kt hg35 18 k34_18
  have k35_80 := kt hg35 80 k34_80
  have k35_19 := kt hg35 19 k34_19
  have k35_106 := kt hg35 106 k34_106
  have k35_20 := kt hg35 20 k34_20
  have k35_115 := kt hg35 115 (hB35.is 8)
  clear b33_3 b33_4 b33_5 fB33 hB35 hK44 hg35 k34_106 k34_11 k34_12 k34_127 k34_128 k34_13 k34_14 k34_16 k34_17 k34_18 k34_19 k34_20 k34_4 k34_6 k34_7 k34_80 k35_127 k35_128
  refine wp_cond_false ((fr_eval rfl).trans k35_115) ?_
  refine wp_skip ?_
  refine hK43 _ _ ?_
  refine region_dk 13 [(116, 0), (117, 1), (118, 2), (119, 3), (120, 4), (121, 5), (122, 6), (123, 7), (124, 8), (125, 9), (126, 10), (127, 11), (128, 12)] [[], [], [], [1, 2], [1, 2, 3], [1, 2, 3, 4], [], [1, 2, 3, 4, 5, 6], [1, 2, 3, 4, 5, 6, 7], [], [9], [1, 2, 3, 4, 5, 6, 7, 8, 9, 10], [0, 1, 2, 3, 4, 5, 6, 7, 8, 9, 10, 11], [0, 1, 2, 3, 4, 5, 6, 7, 8, 9, 10, 11, 12]] (rel [is (.int .i64 2),
   is (.slice (a82') (2) (c83')),
   is (.int .i64 ((at_ : Int))),
   is (.pointer (some ⟨b84', o85' + at_ * 2, none⟩)),
   is (.pointer (some ⟨b84', o85' + at_ * 2, none⟩)),
   is (.slice ((ad86' at_)) ((xs at_).1.length) ((cp87' at_))),
   is (.int .i64 ((k : Int))),
   is (.pointer (some ⟨bwat_, owat_ + k, none⟩)),
   is (.int .i64 ((elT (xs at_).1 k))),
   is (.pointer (some ⟨(s33 24), 0, none⟩)),
   is (.int .i64 ((shF (elT acl k) (xs at_).2))),
   is (.int .i64 ((elT (xs at_).1 k) * (shF (elT acl k) (xs at_).2))),
   is (.pointer (some ⟨(s15 1), 2, none⟩))])
   ⟨is_k, is_k, is_k, is_k, is_k, is_k, is_k, is_k, is_k, is_k, is_k, is_k, is_k, trivial⟩
   ⟨fun f s W hW n q r u m => opv rfl rfl (by simp [go_sem, m.e 18 k35_18]) rfl,
  fun f s W hW n q r u m => opv rfl rfl (by simp [go_sem, m.e 11 k35_11]) rfl,
  fun f s W hW n q r u m => opv rfl rfl (by simp [go_sem, m.e 12 k35_12]) rfl,
  fun f s W hW n q r u m => by have li_ := Nat.not_le.2 (show at_ < 2 by omega); have li2_ : ((at_ : Nat) : Int) < 2 := (by omega); have hab := q158' (by decide); exact opv rfl rfl (by simp [go_sem, m.e 117 (n 1 rfl), m.e 118 (n 2 rfl), li_, li2_, hab]) rfl,
  fun f s W hW n q r u m => opv rfl rfl (by simp [go_sem, m.e 119 (n 3 rfl)]) rfl,
  fun f s W hW n q r u m => by have aW := below_trans fA35 hW; have cu_ := (q157'.below aW).2 at_ (by omega); have cu0_ := cu_.1; have cu1_ := cu_.2.1; exact opv rfl rfl (by simp [go_sem, m.e 120 (n 4 rfl), cu0_, cu1_]) rfl,
  fun f s W hW n q r u m => opv rfl rfl (by simp [go_sem, m.e 16 k35_16]) rfl,
  fun f s W hW n q r u m => by have hab := hwat_; have li_ := Nat.not_le.2 (show k < (xs at_).1.length by rw [hg.ln at_ (by omega)]; omega); have li2_ : (k : Int) < ((xs at_).1.length : Int) := (by rw [hg.ln at_ (by omega)]; omega); exact opv rfl rfl (by simp [go_sem, m.e 121 (n 5 rfl), m.e 122 (n 6 rfl), hab, li_, li2_]) rfl,
  fun f s W hW n q r u m => by have aW := below_trans fA35 hW; have cu_ := ii_atn ((q157'.below aW).2 at_ (by omega)).2.2 hwat_ (show k < (xs at_).1.length by rw [hg.ln at_ (by omega)]; omega); exact opv rfl rfl (by simp [go_sem, m.e 123 (n 7 rfl), cu_]) rfl,
  fun f s W hW n q r u m => opv rfl rfl (by simp [go_sem, m.e 19 k35_19]) rfl,
  fun f s W hW n q r u m => opv rfl rfl (by simp [go_sem, m.e 125 (n 9 rfl), cb b35_6 hW 0]) rfl,
  fun f s W hW n q r u m => opv rfl rfl (by simp [go_sem, m.e 124 (n 8 rfl), m.e 126 (n 10 rfl), IntWalk.i64_in ((elT (xs at_).1 k) * (shF (elT acl k) (xs at_).2)) (by omega)]) rfl,
  fun f s W hW n q r u m => opv rfl rfl (by simp [go_sem, m.e 17 k35_17, m.e 116 (n 0 rfl)]) rfl, trivial⟩ ?_
  clear hK43
  intro f36 s36 W36 hB36 g36 hg36
  have fB36 := hB36.f fB35
  have z36 := hB36.below.size
  have fA36 := hB36.f fA35
  have b36_3 := hB36.b b35_3
  have b36_4 := hB36.b b35_4
  have b36_5 := hB36.b b35_5
  have b36_6 := hB36.b b35_6
  have k36_4 := kt hg36 4 k35_4
  have k36_6 := kt hg36 6 k35_6
  have k36_7 := kt hg36 7 k35_7
  have k36_11 := kt hg36 11 k35_11
  have k36_12 := kt hg36 12 k35_12
  have k36_13 := kt hg36 13 k35_13
  have k36_14 := kt hg36 14 k35_14
  have k36_16 := kt hg36 16 k35_16
  have k36_17 := kt hg36 17 k35_17
  have k36_18 := kt hg36 18 k35_18
  have k36_80 := kt hg36 80 k35_80
  have k36_19 := kt hg36 19 k35_19
  have k36_106 := kt hg36 106 k35_106
  have k36_20 := kt hg36 20 k35_20
  have k36_115 := kt hg36 115 k35_115
  have k36_127 := kt hg36 127 (hB36.is 11)
  have k36_128 := kt hg36 128 (hB36.is 12)
  obtain ⟨W37, hW37⟩ : ∃ W', W' = W36.setRow (s15 1) #[.int .i64 ((elT (xs at_).1 k) * (shF (elT acl k) dn)), .int .i64 ((elT (xs at_).1 k) * (shF (elT acl k) ((xs at_).2 - dn))), .int .i64 ((elT (xs at_).1 k) * (shF (elT acl k) (xs at_).2))] := ⟨_, rfl⟩
  refine tail_skip (o := _) rfl ⟨rfl, rfl⟩ (run_seg hW37 (fr_ev k36_128) (fr_ev k36_127) b36_3 rfl rfl rfl rfl) ?_
  obtain ⟨fB37, nb37, ot37, z37⟩ := seg_facts hW37 fB36 b36_3 (by omega)
  have fA37 := (seg_facts hW37 fA36 b36_3 (by omega)).1
  clear hW37
  have b37_4 := ot37 _ _ (by omega) b36_4
  have b37_5 := ot37 _ _ (by omega) b36_5
  have b37_6 := ot37 _ _ (by omega) b36_6
  refine wpOps_end ?_
  refine inBlock_normal ?_
  refine hK41 _ _ ?_
  refine region_dk 3 [(81, 0), (82, 1), (18, 2)] [[], [0], [0, 1]] (rel [is (.int .i64 2),
   is (.int .i64 3),
   is (.int .i64 3)])
   ⟨is_k, is_k, is_k, trivial⟩
   ⟨fun f s W hW n q r u m => opv rfl rfl (by simp [go_sem, m.e 18 ((r 2 18 rfl rfl).trans k36_18)]) rfl,
  fun f s W hW n q r u m => opv rfl rfl (by simp [go_sem, m.e 81 (n 0 rfl), IntWalk.i64_in (3) (by omega)]) rfl,
  fun f s W hW n q r u m => opv rfl rfl (by simp [go_sem, m.e 82 (n 1 rfl)]) rfl, trivial⟩ ?_
  clear b35_3 b35_4 b35_5 b35_6 b36_3 b36_4 b36_5 b36_6 fB35 fB36 hB36 hK41 hg36 k35_106 k35_11 k35_115 k35_12 k35_13 k35_14 k35_16 k35_17 k35_18 k35_19 k35_20 k35_4 k35_6 k35_7 k35_80 k36_18 ot37
  intro f38 s38 W38 hB38 g38 hg38
  have fB38 := hB38.f fB37
  have z38 := hB38.below.size
  have fA38 := hB38.f fA37
  have b38_3 := hB38.b nb37
  have b38_4 := hB38.b b37_4
  have b38_5 := hB38.b b37_5
  have b38_6 := hB38.b b37_6
  refine wpOps_end ?_
  have k38_4 := kt hg38 4 k36_4
  have k38_6 := kt hg38 6 k36_6
  have k38_7 := kt hg38 7 k36_7
  have k38_11 := kt hg38 11 k36_11
  have k38_12 := kt hg38 12 k36_12
  have k38_13 := kt hg38 13 k36_13
  have k38_14 := kt hg38 14 k36_14
  have k38_16 := kt hg38 16 k36_16
  have k38_17 := kt hg38 17 k36_17
  have k38_80 := kt hg38 80 k36_80
  have k38_19 := kt hg38 19 k36_19
  have k38_106 := kt hg38 106 k36_106
  have k38_20 := kt hg38 20 k36_20
  have k38_115 := kt hg38 115 k36_115
  have k38_127 := kt hg38 127 k36_127
  have k38_128 := kt hg38 128 k36_128
  have k38_18 := kt hg38 18 (hB38.is 2)
  refine then_normal ?_
  rw [rounds_succ]
  clear b37_4 b37_5 b37_6 fB37 hB38 hg38 k36_106 k36_11 k36_115 k36_12 k36_127 k36_128 k36_13 k36_14 k36_16 k36_17 k36_19 k36_20 k36_4 k36_6 k36_7 k36_80 k38_80 nb37
  refine wp_seq_k fun K46 hK46 => ?_
  clear hK46
  refine wp_seq_k fun K47 hK47 => ?_
  refine region_dk 2 [(79, 0), (80, 1)] [[], [0]] (rel [is (.int .i64 3),
   is (.bool false)])
   ⟨is_k, is_k, trivial⟩
   ⟨fun f s W hW n q r u m => opv rfl rfl (by simp [go_sem, m.e 18 k38_18]) rfl,
  fun f s W hW n q r u m => opv rfl rfl (by simp [go_sem, m.e 79 (n 0 rfl)]) rfl, trivial⟩ ?_
  intro f39 s39 W39 hB39 g39 hg39
  have fB39 := hB39.f fB38
  have z39 := hB39.below.size
  have fA39 := hB39.f fA38
  have b39_3 := hB39.b b38_3
  have b39_4 := hB39.b b38_4
  have b39_5 := hB39.b b38_5
  have b39_6 := hB39.b b38_6
  refine hK47 _ _ ?_
  have k39_4 := kt hg39 4 k38_4
  have k39_6 := kt hg39 6 k38_6
  have k39_7 := kt hg39 7 k38_7
  have k39_11 := kt hg39 11 k38_11
  have k39_12 := kt hg39 12 k38_12
  have k39_13 := kt hg39 13 k38_13
  have k39_14 := kt hg39 14 k38_14
  have k39_16 := kt hg39 16 k38_16
  have k39_17 := kt hg39 17 k38_17
  have k39_19 := kt hg39 19 k38_19
  have k39_106 := kt hg39 106 k38_106
  have k39_20 := kt hg39 20 k38_20
  have k39_115 := kt hg39 115 k38_115
  have k39_127 := kt hg39 127 k38_127
  have k39_128 := kt hg39 128 k38_128
  have k39_18 := kt hg39 18 k38_18
  have k39_80 := kt hg39 80 (hB39.is 1)
  clear b38_3 b38_4 b38_5 b38_6 fB38 hB39 hK47 hg39 k38_106 k38_11 k38_115 k38_12 k38_127 k38_128 k38_13 k38_14 k38_16 k38_17 k38_18 k38_19 k38_20 k38_4 k38_6 k38_7 k39_106 k39_115 k39_127 k39_128 k39_18 k39_19 k39_20
  refine wp_cond_false ((fr_eval rfl).trans k39_80) ?_
  clear k39_80
  refine wp_exit ?_
  refine then_exit ?_
  refine then_exit ?_
  refine inBlock_at ?_
  refine hK20 _ _ ?_
  clear hK20
  refine wp_seq_k fun K49 hK49 => ?_
  refine wp_seq_k fun K50 hK50 => ?_
  refine region_dk 6 [(129, 0), (130, 1), (131, 2), (132, 3), (133, 4), (21, 5)] [[], [0], [], [2], [0, 1, 2, 3], [0, 1, 2, 3, 4]] (rel [is (.pointer (some ⟨(s15 1), 0, none⟩)),
   is (.int .i64 ((elT (xs at_).1 k) * (shF (elT acl k) dn))),
   is (.pointer (some ⟨(s15 1), 1, none⟩)),
   is (.int .i64 ((elT (xs at_).1 k) * (shF (elT acl k) ((xs at_).2 - dn)))),
   is (.int .i64 (((elT (xs at_).1 k) * (shF (elT acl k) dn)) + ((elT (xs at_).1 k) * (shF (elT acl k) ((xs at_).2 - dn))))),
   is (.int .i64 (((elT (xs at_).1 k) * (shF (elT acl k) dn)) + ((elT (xs at_).1 k) * (shF (elT acl k) ((xs at_).2 - dn)))))])
   ⟨is_k, is_k, is_k, is_k, is_k, is_k, trivial⟩
   ⟨fun f s W hW n q r u m => opv rfl rfl (by simp [go_sem, m.e 17 k39_17]) rfl,
  fun f s W hW n q r u m => opv rfl rfl (by simp [go_sem, m.e 129 (n 0 rfl), cb b39_3 hW 0]) rfl,
  fun f s W hW n q r u m => opv rfl rfl (by simp [go_sem, m.e 17 k39_17]) rfl,
  fun f s W hW n q r u m => opv rfl rfl (by simp [go_sem, m.e 131 (n 2 rfl), cb b39_3 hW 1]) rfl,
  fun f s W hW n q r u m => opv rfl rfl (by simp [go_sem, m.e 130 (n 1 rfl), m.e 132 (n 3 rfl), IntWalk.i64_in (((elT (xs at_).1 k) * (shF (elT acl k) dn)) + ((elT (xs at_).1 k) * (shF (elT acl k) ((xs at_).2 - dn)))) (by omega)]) rfl,
  fun f s W hW n q r u m => opv rfl rfl (by simp [go_sem, m.e 133 (n 4 rfl)]) rfl, trivial⟩ ?_
  intro f40 s40 W40 hB40 g40 hg40
  have fB40 := hB40.f fB39
  have z40 := hB40.below.size
  have fA40 := hB40.f fA39
  have b40_3 := hB40.b b39_3
  have b40_4 := hB40.b b39_4
  have b40_5 := hB40.b b39_5
  have b40_6 := hB40.b b39_6
  refine hK50 _ _ ?_
  have k40_4 := kt hg40 4 k39_4
  have k40_6 := kt hg40 6 k39_6
  have k40_7 := kt hg40 7 k39_7
  have k40_11 := kt hg40 11 k39_11
  have k40_12 := kt hg40 12 k39_12
  have k40_13 := kt hg40 13 k39_13
  have k40_14 := kt hg40 14 k39_14
  have k40_16 := kt hg40 16 k39_16
  have k40_17 := kt hg40 17 k39_17
  have k40_21 := kt hg40 21 (hB40.is 5)
  clear b39_3 b39_4 b39_5 b39_6 fB39 hB40 hK50 hg40 k39_11 k39_12 k39_13 k39_14 k39_16 k39_17 k39_4 k39_6 k39_7
  refine wp_seq_k fun K51 hK51 => ?_
  refine region_dk 19 [(134, 0), (135, 1), (136, 2), (137, 3), (138, 4), (139, 5), (140, 6), (141, 7), (142, 8), (143, 9), (144, 10), (145, 11), (146, 12), (147, 13), (148, 14), (149, 15), (150, 16), (151, 17), (152, 18)] [[], [], [1], [0, 1, 2], [0, 1, 2, 3], [0, 1, 2, 3, 4], [0, 1, 2, 3, 4], [0, 1, 2, 3, 4, 6], [0, 1, 2, 3, 4], [0, 1, 2, 3, 4], [0, 1, 2, 3, 4, 8, 9], [0, 1, 2, 3, 4, 8, 9, 10], [0, 1, 2, 3, 4, 8, 9, 10, 11], [0, 1, 2, 3, 4], [0, 1, 2, 3, 4, 8, 9, 10, 11, 12, 13], [0, 1, 2, 3, 4, 8, 9, 10, 11, 12, 13, 14], [0, 1, 2, 3, 4, 6, 7, 8, 9, 10, 11, 12, 13, 14, 15], [0, 1, 2, 3, 4, 5, 6, 7, 8, 9, 10, 11, 12, 13, 14, 15, 16], [0, 1, 2, 3, 4, 5, 6, 7, 8, 9, 10, 11, 12, 13, 14, 15, 16, 17]] (rel [is (.int .i64 (((elT (xs at_).1 k) * (shF (elT acl k) dn)) + ((elT (xs at_).1 k) * (shF (elT acl k) ((xs at_).2 - dn))))),
   is (.pointer (some ⟨(s15 1), 2, none⟩)),
   is (.int .i64 ((elT (xs at_).1 k) * (shF (elT acl k) (xs at_).2))),
   is (.bool false),
   is (.bool false),
   is (.int .i64 (((elT (xs at_).1 k) * (shF (elT acl k) dn)) + ((elT (xs at_).1 k) * (shF (elT acl k) ((xs at_).2 - dn))))),
   is (.pointer (some ⟨(s15 1), 2, none⟩)),
   is (.int .i64 ((elT (xs at_).1 k) * (shF (elT acl k) (xs at_).2))),
   is (.slice (a82') (2) (c83')),
   is (.int .i64 ((at_ : Int))),
   is (.pointer (some ⟨b84', o85' + at_ * 2, none⟩)),
   is (.pointer (some ⟨b84', o85' + at_ * 2, none⟩)),
   is (.slice ((ad86' at_)) ((xs at_).1.length) ((cp87' at_))),
   is (.int .i64 ((k : Int))),
   is (.pointer (some ⟨bwat_, owat_ + k, none⟩)),
   is (.int .i64 ((elT (xs at_).1 k))),
   is (.int .i64 (((elT (xs at_).1 k) * (shF (elT acl k) (xs at_).2)) - (elT (xs at_).1 k))),
   is (.bool false),
   is (.bool false)])
   ⟨is_k, is_k, is_k, is_k, is_k, is_k, is_k, is_k, is_k, is_k, is_k, is_k, is_k, is_k, is_k, is_k, is_k, is_k, is_k, trivial⟩
   ⟨fun f s W hW n q r u m => opv rfl rfl (by simp [go_sem, m.e 21 k40_21]) rfl,
  fun f s W hW n q r u m => opv rfl rfl (by simp [go_sem, m.e 17 k40_17]) rfl,
  fun f s W hW n q r u m => opv rfl rfl (by simp [go_sem, m.e 135 (n 1 rfl), cb b40_3 hW 2]) rfl,
  fun f s W hW n q r u m => opv rfl rfl (by simp [go_sem, m.e 134 (n 0 rfl), m.e 136 (n 2 rfl), dq0]) rfl,
  fun f s W hW n q r u m => opv rfl rfl (by simp [go_sem, m.e 137 (n 3 rfl)]) rfl,
  fun f s W hW n q r u m => osure rfl rfl (m.says (d := 138) rfl rfl (n 4 rfl)) (gv (by simp [go_sem, m.e 21 k40_21]) rfl),
  fun f s W hW n q r u m => osure rfl rfl (m.says (d := 138) rfl rfl (n 4 rfl)) (gv (by simp [go_sem, m.e 17 k40_17]) rfl),
  fun f s W hW n q r u m => osure rfl rfl (m.says (d := 138) rfl rfl (n 4 rfl)) (gv (by simp [go_sem, m.e 140 (n 6 rfl), cb b40_3 hW 2]) rfl),
  fun f s W hW n q r u m => osure rfl rfl (m.says (d := 138) rfl rfl (n 4 rfl)) (gv (by simp [go_sem, m.e 11 k40_11]) rfl),
  fun f s W hW n q r u m => osure rfl rfl (m.says (d := 138) rfl rfl (n 4 rfl)) (gv (by simp [go_sem, m.e 12 k40_12]) rfl),
  fun f s W hW n q r u m => osure rfl rfl (m.says (d := 138) rfl rfl (n 4 rfl)) (by have li_ := Nat.not_le.2 (show at_ < 2 by omega); have li2_ : ((at_ : Nat) : Int) < 2 := (by omega); have hab := q158' (by decide); exact gv (by simp [go_sem, m.e 142 (n 8 rfl), m.e 143 (n 9 rfl), li_, li2_, hab]) rfl),
  fun f s W hW n q r u m => osure rfl rfl (m.says (d := 138) rfl rfl (n 4 rfl)) (gv (by simp [go_sem, m.e 144 (n 10 rfl)]) rfl),
  fun f s W hW n q r u m => osure rfl rfl (m.says (d := 138) rfl rfl (n 4 rfl)) (by have aW := below_trans fA40 hW; have cu_ := (q157'.below aW).2 at_ (by omega); have cu0_ := cu_.1; have cu1_ := cu_.2.1; exact gv (by simp [go_sem, m.e 145 (n 11 rfl), cu0_, cu1_]) rfl),
  fun f s W hW n q r u m => osure rfl rfl (m.says (d := 138) rfl rfl (n 4 rfl)) (gv (by simp [go_sem, m.e 16 k40_16]) rfl),
  fun f s W hW n q r u m => osure rfl rfl (m.says (d := 138) rfl rfl (n 4 rfl)) (by have hab := hwat_; have li_ := Nat.not_le.2 (show k < (xs at_).1.length by rw [hg.ln at_ (by omega)]; omega); have li2_ : (k : Int) < ((xs at_).1.length : Int) := (by rw [hg.ln at_ (by omega)]; omega); exact gv (by simp [go_sem, m.e 146 (n 12 rfl), m.e 147 (n 13 rfl), hab, li_, li2_]) rfl),
  fun f s W hW n q r u m => osure rfl rfl (m.says (d := 138) rfl rfl (n 4 rfl)) (by have aW := below_trans fA40 hW; have cu_ := ii_atn ((q157'.below aW).2 at_ (by omega)).2.2 hwat_ (show k < (xs at_).1.length by rw [hg.ln at_ (by omega)]; omega); exact gv (by simp [go_sem, m.e 148 (n 14 rfl), cu_]) rfl),
  fun f s W hW n q r u m => osure rfl rfl (m.says (d := 138) rfl rfl (n 4 rfl)) (gv (by simp [go_sem, m.e 141 (n 7 rfl), m.e 149 (n 15 rfl), IntWalk.i64_in (((elT (xs at_).1 k) * (shF (elT acl k) (xs at_).2)) - (elT (xs at_).1 k)) (by omega)]) rfl),
  fun f s W hW n q r u m => osure rfl rfl (m.says (d := 138) rfl rfl (n 4 rfl)) (gv (by simp [go_sem, m.e 139 (n 5 rfl), m.e 150 (n 16 rfl), dq1]) rfl),
  fun f s W hW n q r u m => opk (c := false) rfl rfl (fun _ => by simp [go_sem, m.e 138 (n 4 rfl), m.e 151 (n 17 rfl)]) (fun h => absurd h (by decide)), trivial⟩ ?_
  clear k40_17 k40_21
  intro f41 s41 W41 hB41 g41 hg41
  have fB41 := hB41.f fB40
  have z41 := hB41.below.size
  have fA41 := hB41.f fA40
  have b41_3 := hB41.b b40_3
  have b41_4 := hB41.b b40_4
  have b41_5 := hB41.b b40_5
  have b41_6 := hB41.b b40_6
  refine hK51 _ _ ?_
  have k41_4 := kt hg41 4 k40_4
  have k41_6 := kt hg41 6 k40_6
  have k41_7 := kt hg41 7 k40_7
  have k41_11 := kt hg41 11 k40_11
  have k41_12 := kt hg41 12 k40_12
  have k41_13 := kt hg41 13 k40_13
  have k41_14 := kt hg41 14 k40_14
  have k41_16 := kt hg41 16 k40_16
  have k41_152 := kt hg41 152 (hB41.is 18)
  clear b40_3 b40_4 b40_5 b40_6 fB40 hB41 hK51 hg41 k40_11 k40_12 k40_13 k40_14 k40_16 k40_4 k40_6 k40_7
  refine wp_cond_false ((fr_eval rfl).trans k41_152) ?_
  clear k41_152
  refine wp_skip ?_
  refine hK49 _ _ ?_
  clear hK49
  refine wp_seq_k fun K53 hK53 => ?_
  refine region_dk 17 [(153, 0), (154, 1), (155, 2), (156, 3), (157, 4), (158, 5), (159, 6), (160, 7), (161, 8), (162, 9), (163, 10), (164, 11), (165, 12), (166, 13), (167, 14), (168, 15), (22, 16)] [[], [], [0, 1], [0, 1, 2], [0, 1, 2, 3], [], [0, 1, 2, 3, 4, 5], [0, 1, 2, 3, 4, 5, 6], [], [], [8, 9], [8, 9, 10], [8, 9, 10, 11], [], [8, 9, 10, 11, 12, 13], [0, 1, 2, 3, 4, 5, 6, 7, 8, 9, 10, 11, 12, 13, 14], [0, 1, 2, 3, 4, 5, 6, 7, 8, 9, 10, 11, 12, 13, 14, 15]] (rel [is (.slice (a82') (2) (c83')),
   is (.int .i64 ((at_ : Int))),
   is (.pointer (some ⟨b84', o85' + at_ * 2, none⟩)),
   is (.pointer (some ⟨b84', o85' + at_ * 2, none⟩)),
   is (.slice ((ad86' at_)) ((xs at_).1.length) ((cp87' at_))),
   is (.int .i64 ((k : Int))),
   is (.pointer (some ⟨bwat_, owat_ + k, none⟩)),
   is (.int .i64 ((elT (xs at_).1 k))),
   is (.slice (a82') (2) (c83')),
   is (.int .i64 ((at_ : Int))),
   is (.pointer (some ⟨b84', o85' + at_ * 2, none⟩)),
   is (.pointer (some ⟨b84', o85' + at_ * 2 + 1, none⟩)),
   is (.int .i64 ((xs at_).2)),
   is (.int .i64 dn),
   is (.int .i64 (((xs at_).2) - dn)),
   is (.int .i64 ((elT (xs at_).1 k) * (((xs at_).2) - dn))),
   is (.int .i64 ((elT (xs at_).1 k) * (((xs at_).2) - dn)))])
   ⟨is_k, is_k, is_k, is_k, is_k, is_k, is_k, is_k, is_k, is_k, is_k, is_k, is_k, is_k, is_k, is_k, is_k, trivial⟩
   ⟨fun f s W hW n q r u m => opv rfl rfl (by simp [go_sem, m.e 11 k41_11]) rfl,
  fun f s W hW n q r u m => opv rfl rfl (by simp [go_sem, m.e 12 k41_12]) rfl,
  fun f s W hW n q r u m => by have li_ := Nat.not_le.2 (show at_ < 2 by omega); have li2_ : ((at_ : Nat) : Int) < 2 := (by omega); have hab := q158' (by decide); exact opv rfl rfl (by simp [go_sem, m.e 153 (n 0 rfl), m.e 154 (n 1 rfl), li_, li2_, hab]) rfl,
  fun f s W hW n q r u m => opv rfl rfl (by simp [go_sem, m.e 155 (n 2 rfl)]) rfl,
  fun f s W hW n q r u m => by have aW := below_trans fA41 hW; have cu_ := (q157'.below aW).2 at_ (by omega); have cu0_ := cu_.1; have cu1_ := cu_.2.1; exact opv rfl rfl (by simp [go_sem, m.e 156 (n 3 rfl), cu0_, cu1_]) rfl,
  fun f s W hW n q r u m => opv rfl rfl (by simp [go_sem, m.e 16 k41_16]) rfl,
  fun f s W hW n q r u m => by have hab := hwat_; have li_ := Nat.not_le.2 (show k < (xs at_).1.length by rw [hg.ln at_ (by omega)]; omega); have li2_ : (k : Int) < ((xs at_).1.length : Int) := (by rw [hg.ln at_ (by omega)]; omega); exact opv rfl rfl (by simp [go_sem, m.e 157 (n 4 rfl), m.e 158 (n 5 rfl), hab, li_, li2_]) rfl,
  fun f s W hW n q r u m => by have aW := below_trans fA41 hW; have cu_ := ii_atn ((q157'.below aW).2 at_ (by omega)).2.2 hwat_ (show k < (xs at_).1.length by rw [hg.ln at_ (by omega)]; omega); exact opv rfl rfl (by simp [go_sem, m.e 159 (n 6 rfl), cu_]) rfl,
  fun f s W hW n q r u m => opv rfl rfl (by simp [go_sem, m.e 11 k41_11]) rfl,
  fun f s W hW n q r u m => opv rfl rfl (by simp [go_sem, m.e 12 k41_12]) rfl,
  fun f s W hW n q r u m => by have li_ := Nat.not_le.2 (show at_ < 2 by omega); have li2_ : ((at_ : Nat) : Int) < 2 := (by omega); have hab := q158' (by decide); exact opv rfl rfl (by simp [go_sem, m.e 161 (n 8 rfl), m.e 162 (n 9 rfl), li_, li2_, hab]) rfl,
  fun f s W hW n q r u m => opv rfl rfl (by simp [go_sem, m.e 163 (n 10 rfl)]) rfl,
  fun f s W hW n q r u m => by have aW := below_trans fA41 hW; have cu_ := (q157'.below aW).2 at_ (by omega); have cu0_ := cu_.1; have cu1_ := cu_.2.1; exact opv rfl rfl (by simp [go_sem, m.e 164 (n 11 rfl), cu0_, cu1_]) rfl,
  fun f s W hW n q r u m => opv rfl rfl (by simp [go_sem, m.e 13 k41_13]) rfl,
  fun f s W hW n q r u m => opv rfl rfl (by simp [go_sem, m.e 165 (n 12 rfl), m.e 166 (n 13 rfl), IntWalk.i64_in (((xs at_).2) - dn) (by omega)]) rfl,
  fun f s W hW n q r u m => opv rfl rfl (by simp [go_sem, m.e 160 (n 7 rfl), m.e 167 (n 14 rfl), IntWalk.i64_in ((elT (xs at_).1 k) * (((xs at_).2) - dn)) (by omega)]) rfl,
  fun f s W hW n q r u m => opv rfl rfl (by simp [go_sem, m.e 168 (n 15 rfl)]) rfl, trivial⟩ ?_
  intro f42 s42 W42 hB42 g42 hg42
  have fB42 := hB42.f fB41
  have z42 := hB42.below.size
  have fA42 := hB42.f fA41
  have b42_3 := hB42.b b41_3
  have b42_4 := hB42.b b41_4
  have b42_5 := hB42.b b41_5
  have b42_6 := hB42.b b41_6
  refine hK53 _ _ ?_
  have k42_4 := kt hg42 4 k41_4
  have k42_6 := kt hg42 6 k41_6
  have k42_7 := kt hg42 7 k41_7
  have k42_11 := kt hg42 11 k41_11
  have k42_12 := kt hg42 12 k41_12
  have k42_13 := kt hg42 13 k41_13
  have k42_14 := kt hg42 14 k41_14
  have k42_16 := kt hg42 16 k41_16
  have k42_22 := kt hg42 22 (hB42.is 16)
  clear b41_3 b41_4 b41_5 b41_6 fB41 hB42 hK53 hg42 k41_11 k41_12 k41_13 k41_14 k41_16 k41_4 k41_6 k41_7
  refine wp_seq_k fun K54 hK54 => ?_
  refine wp_seq_k fun K55 hK55 => ?_
  refine region_dk 3 [(169, 0), (170, 1), (23, 2)] [[], [0], [0, 1]] (rel [is (.int .i64 ((at_ : Int))),
   is (.int .i64 ((at_ : Int) + 1)),
   is (.int .i64 ((at_ : Int) + 1))])
   ⟨is_k, is_k, is_k, trivial⟩
   ⟨fun f s W hW n q r u m => opv rfl rfl (by simp [go_sem, m.e 12 k42_12]) rfl,
  fun f s W hW n q r u m => opv rfl rfl (by simp [go_sem, m.e 169 (n 0 rfl), IntWalk.i64_in ((at_ : Int) + 1) (by omega)]) rfl,
  fun f s W hW n q r u m => opv rfl rfl (by simp [go_sem, m.e 170 (n 1 rfl)]) rfl, trivial⟩ ?_
  intro f43 s43 W43 hB43 g43 hg43
  have fB43 := hB43.f fB42
  have z43 := hB43.below.size
  have fA43 := hB43.f fA42
  have b43_3 := hB43.b b42_3
  have b43_4 := hB43.b b42_4
  have b43_5 := hB43.b b42_5
  have b43_6 := hB43.b b42_6
  refine hK55 _ _ ?_
  have k43_4 := kt hg43 4 k42_4
  have k43_6 := kt hg43 6 k42_6
  have k43_7 := kt hg43 7 k42_7
  have k43_11 := kt hg43 11 k42_11
  have k43_12 := kt hg43 12 k42_12
  have k43_13 := kt hg43 13 k42_13
  have k43_14 := kt hg43 14 k42_14
  have k43_16 := kt hg43 16 k42_16
  have k43_22 := kt hg43 22 k42_22
  have k43_23 := kt hg43 23 (hB43.is 2)
  clear b42_3 b42_4 b42_5 b42_6 fB42 hB43 hK55 hg43 k42_11 k42_12 k42_13 k42_14 k42_16 k42_22 k42_4 k42_6 k42_7
  refine wp_block ?_
  refine wp_loop_n (fun m_ a_ W_ => ∃ g_ : Nat → Value, a_ = fr 217 g_ ∧ (∃ j : Nat, m_ = 2 - j ∧ g_ 4 = .bool false ∧ g_ 6 = .slice (some ⟨g63', 0, none⟩) (3) (c64') ∧ g_ 7 = .slice (some ⟨g67', 0, none⟩) (3) (c68') ∧ g_ 11 = .slice (a82') (2) (c83') ∧ g_ 12 = .int .i64 ((at_ : Int)) ∧ g_ 13 = .int .i64 dn ∧ g_ 14 = .slice (some ⟨g140', 0, none⟩) (3) (c141') ∧ g_ 16 = .int .i64 ((k : Int)) ∧ g_ 23 = .int .i64 ((j : Int)) ∧ g_ 22 = .int .i64 ((gvF xs at_ dn k (j - (at_ + 1)))) ∧ Below w.heap.size w W_ ∧ W43.heap.size ≤ W_.heap.size ∧ Below W12.heap.size W12 W_ ∧ W_.heap[(s15 1)]? = some (.cells #[.int .i64 ((elT (xs at_).1 k) * (shF (elT acl k) dn)), .int .i64 ((elT (xs at_).1 k) * (shF (elT acl k) ((xs at_).2 - dn))), .int .i64 ((elT (xs at_).1 k) * (shF (elT acl k) (xs at_).2))] 59 (0, 0)) ∧ W_.heap[(s19 24)]? = some (.cells #[.int .i64 ((shF (elT acl k) dn)), .int .i64 ((shF (elT acl k) dn))] 33 (0, 0)) ∧ W_.heap[(s26 24)]? = some (.cells #[.int .i64 ((shF (elT acl k) ((xs at_).2 - dn))), .int .i64 ((shF (elT acl k) ((xs at_).2 - dn)))] 33 (0, 0)) ∧ W_.heap[(s33 24)]? = some (.cells #[.int .i64 ((shF (elT acl k) (xs at_).2)), .int .i64 ((shF (elT acl k) (xs at_).2))] 33 (0, 0)) ∧ (at_ + 1 ≤ j ∧ j ≤ 2))) ⟨_, g43, rfl, at_ + 1, rfl, k43_4, k43_6, k43_7, k43_11, k43_12, k43_13, k43_14, k43_16, k43_23.trans (by rfl), k43_22.trans (by rw [Nat.sub_self]; rfl), fB43, Nat.le_refl _, fA43, b43_3, b43_4, b43_5, b43_6, (by omega)⟩ ?_
  rintro _ _ W_162 ⟨g_162, rfl, j, rfl, k_162_4, k_162_6, k_162_7, k_162_11, k_162_12, k_162_13, k_162_14, k_162_16, k_162_23, k_162_22, fB_162, z_162, fA_162, b_162_0, b_162_1, b_162_2, b_162_3, lj0⟩
  clear b43_3 b43_4 b43_5 b43_6 fB43 k43_11 k43_12 k43_13 k43_14 k43_16 k43_22 k43_23 k43_4 k43_6 k43_7
  refine wp_seq_k fun K56 hK56 => ?_
  refine wp_seq_k fun K57 hK57 => ?_
  refine region_dk 4 [(171, 0), (172, 1), (173, 2), (174, 3)] [[], [], [1], [0, 1, 2]] (rel [is (.int .i64 ((j : Int))),
   is (.slice (a82') (2) (c83')),
   is (.int .i64 2),
   is (.bool (decide ((j : Int) < 2)))])
   ⟨is_k, is_k, is_k, is_k, trivial⟩
   ⟨fun f s W hW n q r u m => opv rfl rfl (by simp [go_sem, m.e 23 k_162_23]) rfl,
  fun f s W hW n q r u m => opv rfl rfl (by simp [go_sem, m.e 11 k_162_11]) rfl,
  fun f s W hW n q r u m => opv rfl rfl (by simp [go_sem, m.e 172 (n 1 rfl)]) rfl,
  fun f s W hW n q r u m => opv rfl rfl (by simp [go_sem, m.e 171 (n 0 rfl), m.e 173 (n 2 rfl)]) rfl, trivial⟩ ?_
  intro f44 s44 W44 hB44 g44 hg44
  have fB44 := hB44.f fB_162
  have z44 := hB44.below.size
  have fA44 := hB44.f fA_162
  have b44_3 := hB44.b b_162_0
  have b44_4 := hB44.b b_162_1
  have b44_5 := hB44.b b_162_2
  have b44_6 := hB44.b b_162_3
  refine hK57 _ _ ?_
  have k44_4 := kt hg44 4 k_162_4
  have k44_6 := kt hg44 6 k_162_6
  have k44_7 := kt hg44 7 k_162_7
  have k44_11 := kt hg44 11 k_162_11
  have k44_12 := kt hg44 12 k_162_12
  have k44_13 := kt hg44 13 k_162_13
  have k44_14 := kt hg44 14 k_162_14
  have k44_16 := kt hg44 16 k_162_16
  have k44_23 := kt hg44 23 k_162_23
  have k44_22 := kt hg44 22 k_162_22
  have k44_174 := kt hg44 174 (hB44.is 3)
  clear hB44 hK57 hg44
  refine wp_cond_split (t := decide ((j : Int) < 2)) ((fr_eval rfl).trans k44_174) (fun hc58 => ?_) (fun hc58 => ?_)
  ·
   have hc58' := hc58; try simp only [ba] at hc58'
   have hj2 : j < 2 := by omega
   have hrj_ := hg.rn j hj2
   have hwj_ := getD_bd (hg.bd j hj2) (by decide) k
   have hmj_ := tr_mul hwj_ (show 0 ≤ (xs j).2 ∧ (xs j).2 ≤ 30 by omega)
   have hgj_ := gvF_bd hg hat hdn k (j - (at_ + 1)) (by omega)
   obtain ⟨bwj, owj, hwj⟩ := ii_addr (q157'.2 j (by omega)).2.2 (by rw [hg.ln j (by omega)]; decide)
   clear k44_174
   refine wp_skip ?_
   refine hK56 _ _ ?_
   clear hK56
   refine wp_seq_k fun K59 hK59 => ?_
   refine wp_block ?_
   refine region_dk 17 [(177, 0), (178, 1), (179, 2), (180, 3), (181, 4), (182, 5), (183, 6), (184, 7), (185, 8), (186, 9), (187, 10), (188, 11), (189, 12), (190, 13), (191, 14), (192, 15), (22, 16)] [[], [], [], [1, 2], [1, 2, 3], [1, 2, 3, 4], [], [1, 2, 3, 4, 5, 6], [1, 2, 3, 4, 5, 6, 7], [], [], [9, 10], [9, 10, 11], [9, 10, 11, 12], [1, 2, 3, 4, 5, 6, 7, 8, 9, 10, 11, 12, 13], [0, 1, 2, 3, 4, 5, 6, 7, 8, 9, 10, 11, 12, 13, 14], [0, 1, 2, 3, 4, 5, 6, 7, 8, 9, 10, 11, 12, 13, 14, 15]] (rel [is (.int .i64 ((gvF xs at_ dn k (j - (at_ + 1))))),
   is (.slice (a82') (2) (c83')),
   is (.int .i64 ((j : Int))),
   is (.pointer (some ⟨b84', o85' + j * 2, none⟩)),
   is (.pointer (some ⟨b84', o85' + j * 2, none⟩)),
   is (.slice ((ad86' j)) ((xs j).1.length) ((cp87' j))),
   is (.int .i64 ((k : Int))),
   is (.pointer (some ⟨bwj, owj + k, none⟩)),
   is (.int .i64 ((elT (xs j).1 k))),
   is (.slice (a82') (2) (c83')),
   is (.int .i64 ((j : Int))),
   is (.pointer (some ⟨b84', o85' + j * 2, none⟩)),
   is (.pointer (some ⟨b84', o85' + j * 2 + 1, none⟩)),
   is (.int .i64 ((xs j).2)),
   is (.int .i64 ((elT (xs j).1 k) * ((xs j).2))),
   is (.int .i64 ((gvF xs at_ dn k (j - (at_ + 1))) + ((elT (xs j).1 k) * ((xs j).2)))),
   is (.int .i64 ((gvF xs at_ dn k (j - (at_ + 1))) + ((elT (xs j).1 k) * ((xs j).2))))])
    ⟨is_k, is_k, is_k, is_k, is_k, is_k, is_k, is_k, is_k, is_k, is_k, is_k, is_k, is_k, is_k, is_k, is_k, trivial⟩
    ⟨fun f s W hW n q r u m => opv rfl rfl (by simp [go_sem, m.e 22 ((r 16 22 rfl rfl).trans k44_22)]) rfl,
  fun f s W hW n q r u m => opv rfl rfl (by simp [go_sem, m.e 11 k44_11]) rfl,
  fun f s W hW n q r u m => opv rfl rfl (by simp [go_sem, m.e 23 k44_23]) rfl,
  fun f s W hW n q r u m => by have li_ := Nat.not_le.2 (show j < 2 by omega); have li2_ : ((j : Nat) : Int) < 2 := (by omega); have hab := q158' (by decide); exact opv rfl rfl (by simp [go_sem, m.e 178 (n 1 rfl), m.e 179 (n 2 rfl), li_, li2_, hab]) rfl,
  fun f s W hW n q r u m => opv rfl rfl (by simp [go_sem, m.e 180 (n 3 rfl)]) rfl,
  fun f s W hW n q r u m => by have aW := below_trans fA44 hW; have cu_ := (q157'.below aW).2 j (by omega); have cu0_ := cu_.1; have cu1_ := cu_.2.1; exact opv rfl rfl (by simp [go_sem, m.e 181 (n 4 rfl), cu0_, cu1_]) rfl,
  fun f s W hW n q r u m => opv rfl rfl (by simp [go_sem, m.e 16 k44_16]) rfl,
  fun f s W hW n q r u m => by have hab := hwj; have li_ := Nat.not_le.2 (show k < (xs j).1.length by rw [hg.ln j (by omega)]; omega); have li2_ : (k : Int) < ((xs j).1.length : Int) := (by rw [hg.ln j (by omega)]; omega); exact opv rfl rfl (by simp [go_sem, m.e 182 (n 5 rfl), m.e 183 (n 6 rfl), hab, li_, li2_]) rfl,
  fun f s W hW n q r u m => by have aW := below_trans fA44 hW; have cu_ := ii_atn ((q157'.below aW).2 j (by omega)).2.2 hwj (show k < (xs j).1.length by rw [hg.ln j (by omega)]; omega); exact opv rfl rfl (by simp [go_sem, m.e 184 (n 7 rfl), cu_]) rfl,
  fun f s W hW n q r u m => opv rfl rfl (by simp [go_sem, m.e 11 k44_11]) rfl,
  fun f s W hW n q r u m => opv rfl rfl (by simp [go_sem, m.e 23 k44_23]) rfl,
  fun f s W hW n q r u m => by have li_ := Nat.not_le.2 (show j < 2 by omega); have li2_ : ((j : Nat) : Int) < 2 := (by omega); have hab := q158' (by decide); exact opv rfl rfl (by simp [go_sem, m.e 186 (n 9 rfl), m.e 187 (n 10 rfl), li_, li2_, hab]) rfl,
  fun f s W hW n q r u m => opv rfl rfl (by simp [go_sem, m.e 188 (n 11 rfl)]) rfl,
  fun f s W hW n q r u m => by have aW := below_trans fA44 hW; have cu_ := (q157'.below aW).2 j (by omega); have cu0_ := cu_.1; have cu1_ := cu_.2.1; exact opv rfl rfl (by simp [go_sem, m.e 189 (n 12 rfl), cu0_, cu1_]) rfl,
  fun f s W hW n q r u m => opv rfl rfl (by simp [go_sem, m.e 185 (n 8 rfl), m.e 190 (n 13 rfl), IntWalk.i64_in ((elT (xs j).1 k) * ((xs j).2)) (by omega)]) rfl,
  fun f s W hW n q r u m => opv rfl rfl (by simp [go_sem, m.e 177 (n 0 rfl), m.e 191 (n 14 rfl), IntWalk.i64_in ((gvF xs at_ dn k (j - (at_ + 1))) + ((elT (xs j).1 k) * ((xs j).2))) (by omega)]) rfl,
  fun f s W hW n q r u m => opv rfl rfl (by simp [go_sem, m.e 192 (n 15 rfl)]) rfl, trivial⟩ ?_
   intro f45 s45 W45 hB45 g45 hg45
   have fB45 := hB45.f fB44
   have z45 := hB45.below.size
   have fA45 := hB45.f fA44
   have b45_3 := hB45.b b44_3
   have b45_4 := hB45.b b44_4
   have b45_5 := hB45.b b44_5
   have b45_6 := hB45.b b44_6
   refine wpOps_end ?_
   have k45_4 := kt hg45 4 k44_4
   have k45_6 := kt hg45 6 k44_6
   have k45_7 := kt hg45 7 k44_7
   have k45_11 := kt hg45 11 k44_11
   have k45_12 := kt hg45 12 k44_12
   have k45_13 := kt hg45 13 k44_13
   have k45_14 := kt hg45 14 k44_14
   have k45_16 := kt hg45 16 k44_16
   have k45_23 := kt hg45 23 k44_23
   have k45_22 := kt hg45 22 (hB45.is 16)
   refine inBlock_normal ?_
   refine hK59 _ _ ?_
   refine region_dk 3 [(175, 0), (176, 1), (23, 2)] [[], [0], [0, 1]] (rel [is (.int .i64 ((j : Int))),
   is (.int .i64 ((j : Int) + 1)),
   is (.int .i64 ((j : Int) + 1))])
    ⟨is_k, is_k, is_k, trivial⟩
    ⟨fun f s W hW n q r u m => opv rfl rfl (by simp [go_sem, m.e 23 ((r 2 23 rfl rfl).trans k45_23)]) rfl,
  fun f s W hW n q r u m => opv rfl rfl (by simp [go_sem, m.e 175 (n 0 rfl), IntWalk.i64_in ((j : Int) + 1) (by omega)]) rfl,
  fun f s W hW n q r u m => opv rfl rfl (by simp [go_sem, m.e 176 (n 1 rfl)]) rfl, trivial⟩ ?_
   clear k44_23
   intro f46 s46 W46 hB46 g46 hg46
   have fB46 := hB46.f fB45
   have z46 := hB46.below.size
   have fA46 := hB46.f fA45
   have b46_3 := hB46.b b45_3
   have b46_4 := hB46.b b45_4
   have b46_5 := hB46.b b45_5
   have b46_6 := hB46.b b45_6
   refine wpOps_end ?_
   have k46_4 := kt hg46 4 k45_4
   have k46_6 := kt hg46 6 k45_6
   have k46_7 := kt hg46 7 k45_7
   have k46_11 := kt hg46 11 k45_11
   have k46_12 := kt hg46 12 k45_12
   have k46_13 := kt hg46 13 k45_13
   have k46_14 := kt hg46 14 k45_14
   have k46_16 := kt hg46 16 k45_16
   have k46_22 := kt hg46 22 k45_22
   have k46_23 := kt hg46 23 (hB46.is 2)
   refine then_normal ?_
   exact ⟨_, by omega, g46, rfl, j + 1, rfl, k46_4, k46_6, k46_7, k46_11, k46_12, k46_13, k46_14, k46_16, k46_23.trans (by go_num), k46_22.trans (by rw [gvF_next xs dn k lj0.1]), fB46, (by omega), fA46, b46_3, b46_4, b46_5, b46_6, (by omega)⟩
  ·
   have hc58' := hc58; try simp only [ba] at hc58'
   have hj2 : j = 2 := by omega
   refine wp_exit ?_
   refine then_exit ?_
   refine then_exit ?_
   refine inBlock_at ?_
   refine hK54 _ _ ?_
   clear hK54
   refine wp_seq_k fun K60 hK60 => ?_
   refine region_dk 20 [(193, 0), (194, 1), (195, 2), (196, 3), (197, 4), (198, 5), (199, 6), (200, 7), (201, 8), (202, 9), (203, 10), (204, 11), (205, 12), (206, 13), (207, 14), (208, 15), (209, 16), (210, 17), (211, 18), (212, 19)] [[], [], [0, 1], [0, 1, 2], [0, 1, 2, 3], [], [0, 1, 2, 3, 4, 5], [0, 1, 2, 3, 4, 5, 6], [0, 1, 2, 3, 4, 5, 6, 7], [0, 1, 2, 3, 4, 5, 6, 7, 8], [0, 1, 2, 3, 4, 5, 6, 7, 8], [0, 1, 2, 3, 4, 5, 6, 7, 8, 9, 10], [0, 1, 2, 3, 4, 5, 6, 7, 8, 9, 10, 11], [0, 1, 2, 3, 4, 5, 6, 7, 8, 9, 10, 11, 12], [0, 1, 2, 3, 4, 5, 6, 7, 8], [0, 1, 2, 3, 4, 5, 6, 7, 8], [0, 1, 2, 3, 4, 5, 6, 7, 8, 14, 15], [0, 1, 2, 3, 4, 5, 6, 7, 8, 14, 15, 16], [0, 1, 2, 3, 4, 5, 6, 7, 8, 9, 10, 11, 12, 13, 14, 15, 16, 17], [0, 1, 2, 3, 4, 5, 6, 7, 8, 9, 10, 11, 12, 13, 14, 15, 16, 17, 18]] (rel [is (.slice (some ⟨g140', 0, none⟩) (3) (c141')),
   is (.int .i64 ((k : Int))),
   is (.pointer (some ⟨g140', k * 3, none⟩)),
   is (.pointer (some ⟨g140', k * 3 + 1, none⟩)),
   is (.agg #[.int .i64 (((osL os gf) k).lo), .int .i64 (((osL os gf) k).hi)]),
   is (.int .i64 ((gvF xs at_ dn k (j - (at_ + 1))))),
   is (.bool true),
   is (.bool false),
   is (.bool false),
   is (.slice (some ⟨g140', 0, none⟩) (3) (c141')),
   is (.int .i64 ((k : Int))),
   is (.pointer (some ⟨g140', k * 3, none⟩)),
   is (.pointer (some ⟨g140', k * 3, none⟩)),
   is (.int .i64 (((osL os gf) k).wd)),
   is (.slice (some ⟨g67', 0, none⟩) (3) (c68')),
   is (.int .i64 ((k : Int))),
   is (.pointer (some ⟨g67', k, none⟩)),
   is (.int .i64 ((elT (all_) k))),
   is (.bool false),
   is (.bool false)])
    ⟨is_k, is_k, is_k, is_k, is_k, is_k, is_k, is_k, is_k, is_k, is_k, is_k, is_k, is_k, is_k, is_k, is_k, is_k, is_k, is_k, trivial⟩
    ⟨fun f s W hW n q r u m => opv rfl rfl (by simp [go_sem, m.e 14 k44_14]) rfl,
  fun f s W hW n q r u m => opv rfl rfl (by simp [go_sem, m.e 16 k44_16]) rfl,
  fun f s W hW n q r u m => by have li_ := Nat.not_le.2 (show k < 3 by omega); have li2_ : (k : Int) < 3 := (by omega); exact opv rfl rfl (by simp [go_sem, m.e 193 (n 0 rfl), m.e 194 (n 1 rfl), li_, li2_]) rfl,
  fun f s W hW n q r u m => opv rfl rfl (by simp [go_sem, m.e 195 (n 2 rfl)]) rfl,
  fun f s W hW n q r u m => by have aW := below_trans fA44 hW; have cu_ := (q160'.below aW).2 k (by omega); rw [Nat.zero_add] at cu_; have cu0_ : W.cell? ⟨g140', k * 3, none⟩ = some (.int .i64 ((osL os gf) k).wd) := cu_.1; have cu1_ : W.cell? ⟨g140', k * 3 + 1, none⟩ = some (.int .i64 ((osL os gf) k).lo) := cu_.2.1; have cu2_ : W.cell? ⟨g140', k * 3 + 2, none⟩ = some (.int .i64 ((osL os gf) k).hi) := cu_.2.2; have cu3_ : W.cell? ⟨g140', k * 3 + 1 + 1, none⟩ = some (.int .i64 ((osL os gf) k).hi) := cu_.2.2; exact opv rfl rfl (by simp [go_sem, m.e 196 (n 3 rfl), cu0_, cu1_, cu2_, cu3_]) rfl,
  fun f s W hW n q r u m => opv rfl rfl (by simp [go_sem, m.e 22 k44_22]) rfl,
  fun f s W hW n q r u m => opc (args := #[.agg #[.int .i64 (((osL os gf) k).lo), .int .i64 (((osL os gf) k).hi)], .int .i64 ((gvF xs at_ dn k (j - (at_ + 1))))]) rfl rfl (by simp [go_sem, m.e 197 (n 4 rfl), m.e 198 (n 5 rfl)]) (pubHas_yes (((osL os gf) k).lo) (((osL os gf) k).hi) ((gvF xs at_ dn k (j - (at_ + 1)))) W (decide_eq_true (by have h_ := hhas k hk3; subst hj2; exact h_.1)) (decide_eq_true (by have h_ := hhas k hk3; subst hj2; exact h_.2))),
  fun f s W hW n q r u m => opv rfl rfl (by simp [go_sem, m.e 199 (n 6 rfl)]) rfl,
  fun f s W hW n q r u m => opv rfl rfl (by simp [go_sem, m.e 200 (n 7 rfl)]) rfl,
  fun f s W hW n q r u m => osure rfl rfl (m.says (d := 201) rfl rfl (n 8 rfl)) (gv (by simp [go_sem, m.e 14 k44_14]) rfl),
  fun f s W hW n q r u m => osure rfl rfl (m.says (d := 201) rfl rfl (n 8 rfl)) (gv (by simp [go_sem, m.e 16 k44_16]) rfl),
  fun f s W hW n q r u m => osure rfl rfl (m.says (d := 201) rfl rfl (n 8 rfl)) (by have li_ := Nat.not_le.2 (show k < 3 by omega); have li2_ : (k : Int) < 3 := (by omega); exact gv (by simp [go_sem, m.e 202 (n 9 rfl), m.e 203 (n 10 rfl), li_, li2_]) rfl),
  fun f s W hW n q r u m => osure rfl rfl (m.says (d := 201) rfl rfl (n 8 rfl)) (gv (by simp [go_sem, m.e 204 (n 11 rfl)]) rfl),
  fun f s W hW n q r u m => osure rfl rfl (m.says (d := 201) rfl rfl (n 8 rfl)) (by have aW := below_trans fA44 hW; have cu_ := (q160'.below aW).2 k (by omega); rw [Nat.zero_add] at cu_; have cu0_ : W.cell? ⟨g140', k * 3, none⟩ = some (.int .i64 ((osL os gf) k).wd) := cu_.1; have cu1_ : W.cell? ⟨g140', k * 3 + 1, none⟩ = some (.int .i64 ((osL os gf) k).lo) := cu_.2.1; have cu2_ : W.cell? ⟨g140', k * 3 + 2, none⟩ = some (.int .i64 ((osL os gf) k).hi) := cu_.2.2; have cu3_ : W.cell? ⟨g140', k * 3 + 1 + 1, none⟩ = some (.int .i64 ((osL os gf) k).hi) := cu_.2.2; exact gv (by simp [go_sem, m.e 205 (n 12 rfl), cu0_, cu1_, cu2_, cu3_]) rfl),
  fun f s W hW n q r u m => osure rfl rfl (m.says (d := 201) rfl rfl (n 8 rfl)) (gv (by simp [go_sem, m.e 7 k44_7]) rfl),
  fun f s W hW n q r u m => osure rfl rfl (m.says (d := 201) rfl rfl (n 8 rfl)) (gv (by simp [go_sem, m.e 16 k44_16]) rfl),
  fun f s W hW n q r u m => osure rfl rfl (m.says (d := 201) rfl rfl (n 8 rfl)) (by have li_ := Nat.not_le.2 (show k < 3 by omega); have li2_ : (k : Int) < 3 := (by omega); exact gv (by simp [go_sem, m.e 207 (n 14 rfl), m.e 208 (n 15 rfl), li_, li2_]) rfl),
  fun f s W hW n q r u m => osure rfl rfl (m.says (d := 201) rfl rfl (n 8 rfl)) (by have aW := below_trans fA44 hW; have cu_ := ii_at3 (q154'.below aW (Nat.le_refl _)) (show k < 3 by omega); exact gv (by simp [go_sem, m.e 209 (n 16 rfl), cu_]) rfl),
  fun f s W hW n q r u m => osure rfl rfl (m.says (d := 201) rfl rfl (n 8 rfl)) (gv (by simp [go_sem, m.e 206 (n 13 rfl), m.e 210 (n 17 rfl), dq2]) rfl),
  fun f s W hW n q r u m => opk (c := false) rfl rfl (fun _ => by simp [go_sem, m.e 201 (n 8 rfl), m.e 211 (n 18 rfl)]) (fun h => absurd h (by decide)), trivial⟩ ?_
   clear k44_22
   intro f47 s47 W47 hB47 g47 hg47
   have fB47 := hB47.f fB44
   have z47 := hB47.below.size
   have fA47 := hB47.f fA44
   have b47_3 := hB47.b b44_3
   have b47_4 := hB47.b b44_4
   have b47_5 := hB47.b b44_5
   have b47_6 := hB47.b b44_6
   refine hK60 _ _ ?_
   have k47_4 := kt hg47 4 k44_4
   have k47_6 := kt hg47 6 k44_6
   have k47_7 := kt hg47 7 k44_7
   have k47_11 := kt hg47 11 k44_11
   have k47_12 := kt hg47 12 k44_12
   have k47_13 := kt hg47 13 k44_13
   have k47_14 := kt hg47 14 k44_14
   have k47_16 := kt hg47 16 k44_16
   have k47_212 := kt hg47 212 (hB47.is 19)
   clear b44_3 b44_4 b44_5 b44_6 fB44 hB47 hg47 k44_11 k44_12 k44_13 k44_14 k44_16 k44_4 k44_6 k44_7
   refine wp_cond_false ((fr_eval rfl).trans k47_212) ?_
   clear k47_212
   refine wp_skip ?_
   refine inBlock_normal ?_
   refine hK18 _ _ ?_
   refine region_dk 3 [(76, 0), (77, 1), (16, 2)] [[], [0], [0, 1]] (rel [is (.int .i64 ((k : Int))),
   is (.int .i64 ((k : Int) + 1)),
   is (.int .i64 ((k : Int) + 1))])
    ⟨is_k, is_k, is_k, trivial⟩
    ⟨fun f s W hW n q r u m => opv rfl rfl (by simp [go_sem, m.e 16 ((r 2 16 rfl rfl).trans k47_16)]) rfl,
  fun f s W hW n q r u m => opv rfl rfl (by simp [go_sem, m.e 76 (n 0 rfl), IntWalk.i64_in ((k : Int) + 1) (by omega)]) rfl,
  fun f s W hW n q r u m => opv rfl rfl (by simp [go_sem, m.e 77 (n 1 rfl)]) rfl, trivial⟩ ?_
   clear hK18
   intro f48 s48 W48 hB48 g48 hg48
   have fB48 := hB48.f fB47
   have z48 := hB48.below.size
   have fA48 := hB48.f fA47
   have b48_3 := hB48.b b47_3
   have b48_4 := hB48.b b47_4
   have b48_5 := hB48.b b47_5
   have b48_6 := hB48.b b47_6
   refine wpOps_end ?_
   have k48_4 := kt hg48 4 k47_4
   have k48_6 := kt hg48 6 k47_6
   have k48_7 := kt hg48 7 k47_7
   have k48_11 := kt hg48 11 k47_11
   have k48_12 := kt hg48 12 k47_12
   have k48_13 := kt hg48 13 k47_13
   have k48_14 := kt hg48 14 k47_14
   have k48_16 := kt hg48 16 (hB48.is 2)
   refine then_normal ?_
   exact ⟨_, by omega, g48, rfl, k + 1, rfl, k48_4, k48_6, k48_7, k48_11, k48_12, k48_13, k48_14, k48_16.trans (by go_num), fB48, (by omega), fA48, (by omega)⟩
 ·
  have hc17' := hc17; try simp only [ba] at hc17'
  have hk3 : k = 3 := by omega
  refine wp_exit ?_
  refine then_exit ?_
  refine then_exit ?_
  refine inBlock_at ?_
  refine hK13 _ _ ?_
  clear hK13
  refine wp_seq_k fun K62 hK62 => ?_
  refine region_dk 5 [(213, 0), (214, 1), (215, 2), (216, 3), (4, 4)] [[], [0], [0, 1], [0, 1, 2], [0, 1, 2, 3]] (rel [is (.bool true),
   is (.bool true),
   is (.bool true),
   is (.bool true),
   is (.bool true)])
   ⟨is_k, is_k, is_k, is_k, is_k, trivial⟩
   ⟨fun f s W hW n q r u m => opc rfl rfl (by simp [go_sem]) (pubScore_yes W),
  fun f s W hW n q r u m => opv rfl rfl (by simp [go_sem, m.e 213 (n 0 rfl)]) rfl,
  fun f s W hW n q r u m => osure rfl rfl (m.says (d := 214) rfl rfl (n 1 rfl)) (gc (by simp [go_sem]) (pubTrim_yes W)),
  fun f s W hW n q r u m => opk (c := true) rfl rfl (fun h => absurd h (by decide)) (fun _ => by simp [go_sem, m.e 214 (n 1 rfl), m.e 215 (n 2 rfl)]),
  fun f s W hW n q r u m => opv rfl rfl (by simp [go_sem, m.e 216 (n 3 rfl)]) rfl, trivial⟩ ?_
  intro f49 s49 W49 hB49 g49 hg49
  have fB49 := hB49.f fB14
  have z49 := hB49.below.size
  have fA49 := hB49.f fA14
  refine hK62 _ _ ?_
  have k49_4 := kt hg49 4 (hB49.is 4)
  clear fB14 hB49 hK62 hg49
  refine wp_ret ?_
  refine leave_one (N := 217) (v := .bool true) (.inr rfl) Try.results6 rfl k49_4 ?_
  exact ⟨rfl, fB49⟩
end Go.Proofs.Ytnhipdbdolabkaa
