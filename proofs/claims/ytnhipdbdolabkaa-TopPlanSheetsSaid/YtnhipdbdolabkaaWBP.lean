/- Part of the proof: what the claim leans on. -/
import Derived.Test.YtnhipdbdolabkaaWBB
set_option linter.unusedSimpArgs false
set_option linter.unusedVariables false
namespace Go.Proofs.Ytnhipdbdolabkaa
open Go.RowKit
/-- How many sheets, and how many webs, of an order the first set-ups give. -/
def shS (ys : Nat → List Int × Int) (ln : Int) (i : Nat) : Nat → Int
  | 0 => 0
  | j + 1 => shS ys ln i j + elT (ys j).1 i * shF ln (ys j).2
def wbS (ys : Nat → List Int × Int) (i : Nat) : Nat → Int
  | 0 => 0
  | j + 1 => wbS ys i j + elT (ys j).1 i
theorem shS_bd {p : Tp} {os : Nat → To} {n : Nat} {ys : Nat → List Int × Int} (hg : GetOk p os n ys) {ln : Int} (hl : 100 ≤ ln) (i : Nat) : ∀ j, j ≤ n → (0 ≤ shS ys ln i j ∧ shS ys ln i j ≤ 120000 * (j : Int)) ∧ 0 ≤ wbS ys i j ∧ wbS ys i j ≤ 4 * (j : Int)
  | 0, _ => by show ((0 : Int) ≤ 0 ∧ (0 : Int) ≤ _) ∧ (0 : Int) ≤ 0 ∧ (0 : Int) ≤ _; omega
  | j + 1, h => by
    have ih := shS_bd hg hl i j (by omega)
    have h1 := getD_bd (hg.bd j (by omega)) (by decide) i
    have h2 := hg.rn j (by omega)
    have h3 := tr_mul h1 (shF_bd (rn := (ys j).2) hl (by omega))
    rw [shS, wbS]; omega
set_option maxRecDepth 100000 in
set_option maxHeartbeats 40000000 in
theorem plan_main (sv : Nat → Int) (p : Tp) (os : Nat → To) (xs : Nat → List Int × Int) (acl all_ : List Int) (n : Nat) (ys : Nat → List Int × Int) (w : World) (hpb : ∀ W, Calls Try.prog 7 #[.agg #[.int .u8 ((sv 0)), .int .u8 ((sv 1)), .int .u8 ((sv 2)), .int .u8 ((sv 3)), .int .u8 ((sv 4)), .int .u8 ((sv 5)), .int .u8 ((sv 6)), .int .u8 ((sv 7)), .int .u8 ((sv 8)), .int .u8 ((sv 9)), .int .u8 ((sv 10)), .int .u8 ((sv 11)), .int .u8 ((sv 12)), .int .u8 ((sv 13)), .int .u8 ((sv 14)), .int .u8 ((sv 15)), .int .u8 ((sv 16)), .int .u8 ((sv 17)), .int .u8 ((sv 18)), .int .u8 ((sv 19)), .int .u8 ((sv 20)), .int .u8 ((sv 21)), .int .u8 ((sv 22)), .int .u8 ((sv 23)), .int .u8 ((sv 24)), .int .u8 ((sv 25)), .int .u8 ((sv 26)), .int .u8 ((sv 27)), .int .u8 ((sv 28)), .int .u8 ((sv 29)), .int .u8 ((sv 30))]] W (fun e w' => ∃ v1 v2 v3, e = .returned (.tuple #[v1, v2, v3, .bool true]) ∧ IsG (acl) v2 w' ∧ IsG (all_) v3 w' ∧ Below W.heap.size W w')) (hrun : ∀ W a c, Ii W a 3 c (all_) → Calls Try.prog 8 #[.agg #[.int .u8 ((sv 0)), .int .u8 ((sv 1)), .int .u8 ((sv 2)), .int .u8 ((sv 3)), .int .u8 ((sv 4)), .int .u8 ((sv 5)), .int .u8 ((sv 6)), .int .u8 ((sv 7)), .int .u8 ((sv 8)), .int .u8 ((sv 9)), .int .u8 ((sv 10)), .int .u8 ((sv 11)), .int .u8 ((sv 12)), .int .u8 ((sv 13)), .int .u8 ((sv 14)), .int .u8 ((sv 15)), .int .u8 ((sv 16)), .int .u8 ((sv 17)), .int .u8 ((sv 18)), .int .u8 ((sv 19)), .int .u8 ((sv 20)), .int .u8 ((sv 21)), .int .u8 ((sv 22)), .int .u8 ((sv 23)), .int .u8 ((sv 24)), .int .u8 ((sv 25)), .int .u8 ((sv 26)), .int .u8 ((sv 27)), .int .u8 ((sv 28)), .int .u8 ((sv 29)), .int .u8 ((sv 30))], .slice a 3 c] W (fun e w' => ∃ v2 v3, e = .returned (.tuple #[.agg #[.int .i64 p.wide, .int .i64 p.tlo, .int .i64 p.thi, .int .i64 p.webs], v2, v3]) ∧ IsOrdS 35 3 (os) v2 w' ∧ IsPlanS 35 (2) (xs) v3 w' ∧ Below W.heap.size W w')) (hplan : ∀ W b c, OrdR W b 0 3 os → Calls Try.prog 20 #[.agg #[.int .i64 p.wide, .int .i64 p.tlo, .int .i64 p.thi, .int .i64 p.webs], .slice (some ⟨b, 0, none⟩) 3 c] W (fun e w' => ∃ v, e = .returned (.tuple #[v, .int .i64 0]) ∧ IsPlan n ys v w' ∧ Below W.heap.size W w')) (hp : TpIn p) (ho : ∀ i, i < 3 → ToIn (os i)) (hg : GetOk p os n ys) (hn2 : n ≤ 2) (hwr : wrF os (gotK ys n) 3 0 = -1) (hacl : ∀ k, k < 3 → 100 ≤ elT acl k ∧ elT acl k ≤ 5000) (hlaw : ∀ k, k < 3 → ((shS ys (elT acl k) k n) * (elT acl k)) ≤ ((elT (gotK ys n) k) * 100000) ∧ ((elT (gotK ys n) k) * 100000) ≤ (((shS ys (elT acl k) k n) + (wbS ys k n)) * (elT acl k))) (hgot : ∀ k, k < 3 → (os k).lo ≤ (elT (gotK ys n) k) ∧ (elT (gotK ys n) k) ≤ (os k).hi) :
  Calls Try.prog 5 #[.agg #[.int .u8 ((sv 0)), .int .u8 ((sv 1)), .int .u8 ((sv 2)), .int .u8 ((sv 3)), .int .u8 ((sv 4)), .int .u8 ((sv 5)), .int .u8 ((sv 6)), .int .u8 ((sv 7)), .int .u8 ((sv 8)), .int .u8 ((sv 9)), .int .u8 ((sv 10)), .int .u8 ((sv 11)), .int .u8 ((sv 12)), .int .u8 ((sv 13)), .int .u8 ((sv 14)), .int .u8 ((sv 15)), .int .u8 ((sv 16)), .int .u8 ((sv 17)), .int .u8 ((sv 18)), .int .u8 ((sv 19)), .int .u8 ((sv 20)), .int .u8 ((sv 21)), .int .u8 ((sv 22)), .int .u8 ((sv 23)), .int .u8 ((sv 24)), .int .u8 ((sv 25)), .int .u8 ((sv 26)), .int .u8 ((sv 27)), .int .u8 ((sv 28)), .int .u8 ((sv 29)), .int .u8 ((sv 30))]] w (fun e w' => e = .returned (.bool true) ∧ Below w.heap.size w w') := by
 have dq2 : (decide (2 < (n : Int))) = false := decide_eq_false (by omega)
 refine calls_fr Try.func5 Try.ntmps5 rfl rfl fun g hg => ?_
 have k0 : g 0 = .agg #[.int .u8 ((sv 0)), .int .u8 ((sv 1)), .int .u8 ((sv 2)), .int .u8 ((sv 3)), .int .u8 ((sv 4)), .int .u8 ((sv 5)), .int .u8 ((sv 6)), .int .u8 ((sv 7)), .int .u8 ((sv 8)), .int .u8 ((sv 9)), .int .u8 ((sv 10)), .int .u8 ((sv 11)), .int .u8 ((sv 12)), .int .u8 ((sv 13)), .int .u8 ((sv 14)), .int .u8 ((sv 15)), .int .u8 ((sv 16)), .int .u8 ((sv 17)), .int .u8 ((sv 18)), .int .u8 ((sv 19)), .int .u8 ((sv 20)), .int .u8 ((sv 21)), .int .u8 ((sv 22)), .int .u8 ((sv 23)), .int .u8 ((sv 24)), .int .u8 ((sv 25)), .int .u8 ((sv 26)), .int .u8 ((sv 27)), .int .u8 ((sv 28)), .int .u8 ((sv 29)), .int .u8 ((sv 30))] := hg 0
 clear hg
 have fB0 : Below w.heap.size w w := Below.refl _ _
 refine wp_seq_k fun K1 hK1 => ?_
 refine region_dk 2 [(1, 0), (2, 1)] [[], []] (rel [bx 0 #[.int .u8 ((sv 0)), .int .u8 ((sv 1)), .int .u8 ((sv 2)), .int .u8 ((sv 3)), .int .u8 ((sv 4)), .int .u8 ((sv 5)), .int .u8 ((sv 6)), .int .u8 ((sv 7)), .int .u8 ((sv 8)), .int .u8 ((sv 9)), .int .u8 ((sv 10)), .int .u8 ((sv 11)), .int .u8 ((sv 12)), .int .u8 ((sv 13)), .int .u8 ((sv 14)), .int .u8 ((sv 15)), .int .u8 ((sv 16)), .int .u8 ((sv 17)), .int .u8 ((sv 18)), .int .u8 ((sv 19)), .int .u8 ((sv 20)), .int .u8 ((sv 21)), .int .u8 ((sv 22)), .int .u8 ((sv 23)), .int .u8 ((sv 24)), .int .u8 ((sv 25)), .int .u8 ((sv 26)), .int .u8 ((sv 27)), .int .u8 ((sv 28)), .int .u8 ((sv 29)), .int .u8 ((sv 30))] 27,
   is (.bool false)])
  ⟨bx_k, is_k, trivial⟩
  ⟨fun f s W hW q r u x m => opb rfl rfl (by simp [go_sem, m.e 0 k0]),
  fun f s W hW q r u x m => opv rfl rfl (by simp [go_sem]) rfl, trivial⟩ ?_
 intro f1 s1 W1 hB1 g1 hg1
 have fB1 := hB1.f fB0
 have z1 := hB1.below.size
 obtain ⟨r1_0, br1_0⟩ := hB1.is 0
 have lr1_0 := hB1.lr 0 br1_0
 refine hK1 _ _ ?_
 have k1_1 := kt hg1 1 r1_0
 have k1_2 := kt hg1 2 (hB1.is 1)
 clear fB0 hB1 hK1 hg1 r1_0
 refine wp_seq_k fun K2 hK2 => ?_
 refine region_dk 11 [(23, 0), (24, 1), (22, 2), (25, 3), (26, 4), (27, 5), (28, 6), (3, 7), (4, 8), (5, 9), (6, 10)] [[], [0], [0, 1], [0, 1, 2], [0, 1, 2], [0, 1, 2], [0, 1, 2], [0, 1, 2, 3], [0, 1, 2, 3, 4, 7], [0, 1, 2, 3, 4, 5, 7, 8], [0, 1, 2, 3, 4, 5, 6, 7, 8, 9]] (rel [is (.agg #[.int .u8 ((sv 0)), .int .u8 ((sv 1)), .int .u8 ((sv 2)), .int .u8 ((sv 3)), .int .u8 ((sv 4)), .int .u8 ((sv 5)), .int .u8 ((sv 6)), .int .u8 ((sv 7)), .int .u8 ((sv 8)), .int .u8 ((sv 9)), .int .u8 ((sv 10)), .int .u8 ((sv 11)), .int .u8 ((sv 12)), .int .u8 ((sv 13)), .int .u8 ((sv 14)), .int .u8 ((sv 15)), .int .u8 ((sv 16)), .int .u8 ((sv 17)), .int .u8 ((sv 18)), .int .u8 ((sv 19)), .int .u8 ((sv 20)), .int .u8 ((sv 21)), .int .u8 ((sv 22)), .int .u8 ((sv 23)), .int .u8 ((sv 24)), .int .u8 ((sv 25)), .int .u8 ((sv 26)), .int .u8 ((sv 27)), .int .u8 ((sv 28)), .int .u8 ((sv 29)), .int .u8 ((sv 30))]),
   ab fun v W => ∃ x0 x1 x2, v = .tuple #[x0, x1, x2, .bool true] ∧ IsAny2 x0 W ∧ IsG (acl) x1 W ∧ IsG (all_) x2 W,
   ab fun v W => ∃ x0 x1 x2, v = .tuple #[x0, x1, x2, .bool true] ∧ IsAny2 x0 W ∧ IsG (acl) x1 W ∧ IsG (all_) x2 W,
   ab fun v W => IsAny2 v W,
   ab fun v W => IsG (acl) v W,
   ab fun v W => IsG (all_) v W,
   is (.bool true),
   ab fun v W => IsAny2 v W,
   ab fun v W => IsG (acl) v W,
   ab fun v W => IsG (all_) v W,
   is (.bool true)])
  ⟨is_k, ab_k fun v W W' hb ⟨x0, x1, x2, e, h0, h1, h2⟩ => ⟨x0, x1, x2, e, h0, (h1.below hb), (h2.below hb)⟩, ab_k fun v W W' hb ⟨x0, x1, x2, e, h0, h1, h2⟩ => ⟨x0, x1, x2, e, h0, (h1.below hb), (h2.below hb)⟩, ab_k fun v W W' hb h => h, ab_k fun v W W' hb h => (h.below hb), ab_k fun v W W' hb h => (h.below hb), is_k, ab_k fun v W W' hb h => h, ab_k fun v W W' hb h => (h.below hb), ab_k fun v W W' hb h => (h.below hb), is_k, trivial⟩
  ⟨fun f s W hW q r u x m => opl rfl rfl rfl (m.v 1 k1_1) (blk_below br1_0 hW) Try.underlying27 rfl (by kernel_rfl) rfl,
  fun f s W hW q r u x m => opDo_call rfl rfl (by simp [go_sem, m.e 23 (q 0 rfl)]) (hpb W) ((fun e W' h => by obtain ⟨v1, v2, v3, e1, h2, h3, h4⟩ := h; exact ⟨_, e1, h4, ⟨v1, v2, v3, rfl, trivial, h2, h3⟩⟩)),
  fun f s W hW q r u x m => opv (v := (f 1)) rfl rfl (by simp [go_sem, (m.at' 24 rfl : x.tmps[24]?.getD undef = f 1)] <;> rfl) (q 1 rfl),
  fun f s W hW q r u x m => by obtain ⟨x2_0, x2_1, x2_2, d2, p2_0, p2_1, p2_2⟩ := (q 2 rfl); exact opv (v := x2_0) rfl rfl (by simp [go_sem, m.e 22 d2]) p2_0,
  fun f s W hW q r u x m => by obtain ⟨x2_0, x2_1, x2_2, d2, p2_0, p2_1, p2_2⟩ := (q 2 rfl); exact opv (v := x2_1) rfl rfl (by simp [go_sem, m.e 22 d2]) p2_1,
  fun f s W hW q r u x m => by obtain ⟨x2_0, x2_1, x2_2, d2, p2_0, p2_1, p2_2⟩ := (q 2 rfl); exact opv (v := x2_2) rfl rfl (by simp [go_sem, m.e 22 d2]) p2_2,
  fun f s W hW q r u x m => by obtain ⟨x2_0, x2_1, x2_2, d2, p2_0, p2_1, p2_2⟩ := (q 2 rfl); exact opv rfl rfl (by simp [go_sem, m.e 22 d2]) rfl,
  fun f s W hW q r u x m => opv (v := (f 3)) rfl rfl (by simp [go_sem, (m.at' 25 rfl : x.tmps[25]?.getD undef = f 3)] <;> rfl) (q 3 rfl),
  fun f s W hW q r u x m => opv (v := (f 4)) rfl rfl (by simp [go_sem, (m.at' 26 rfl : x.tmps[26]?.getD undef = f 4)] <;> rfl) (q 4 rfl),
  fun f s W hW q r u x m => opv (v := (f 5)) rfl rfl (by simp [go_sem, (m.at' 27 rfl : x.tmps[27]?.getD undef = f 5)] <;> rfl) (q 5 rfl),
  fun f s W hW q r u x m => opv rfl rfl (by simp [go_sem, m.e 28 (q 6 rfl)]) rfl, trivial⟩ ?_
 intro f2 s2 W2 hB2 g2 hg2
 have fB2 := hB2.f fB1
 have z2 := hB2.below.size
 have b2_0 := hB2.b br1_0
 obtain ⟨g63', c64', r2_8, q65', q66'⟩ := hB2.is 8
 obtain ⟨g67', c68', r2_9, q69', q70'⟩ := hB2.is 9
 refine hK2 _ _ ?_
 have k2_1 := kt hg2 1 k1_1
 have k2_2 := kt hg2 2 k1_2
 have k2_4 := kt hg2 4 r2_8
 have k2_5 := kt hg2 5 r2_9
 have k2_6 := kt hg2 6 (hB2.is 10)
 clear br1_0 fB1 hB2 hK2 hg2 k1_1 k1_2 r2_8 r2_9
 refine wp_seq_k fun K3 hK3 => ?_
 refine wp_seq_k fun K4 hK4 => ?_
 refine region_dk 2 [(29, 0), (30, 1)] [[], [0]] (rel [is (.bool true),
   is (.bool false)])
  ⟨is_k, is_k, trivial⟩
  ⟨fun f s W hW q r u x m => opv rfl rfl (by simp [go_sem, m.e 6 k2_6]) rfl,
  fun f s W hW q r u x m => opv rfl rfl (by simp [go_sem, m.e 29 (q 0 rfl)]) rfl, trivial⟩ ?_
 clear k2_6
 intro f3 s3 W3 hB3 g3 hg3
 have fB3 := hB3.f fB2
 have z3 := hB3.below.size
 have b3_0 := hB3.b b2_0
 have q71' := (q65'.bw hB3)
 have q72' := (hB3.lt q66')
 have q73' := (q69'.bw hB3)
 have q74' := (hB3.lt q70')
 refine hK4 _ _ ?_
 have k3_1 := kt hg3 1 k2_1
 have k3_2 := kt hg3 2 k2_2
 have k3_4 := kt hg3 4 k2_4
 have k3_5 := kt hg3 5 k2_5
 have k3_30 := kt hg3 30 (hB3.is 1)
 clear b2_0 fB2 hB3 hK4 hg3 k2_1 k2_2 k2_4 k2_5
 refine wp_cond_false ((fr_eval rfl).trans k3_30) ?_
 clear k3_30
 refine wp_skip ?_
 refine hK3 _ _ ?_
 clear hK3
 refine wp_seq_k fun K6 hK6 => ?_
 refine region_dk 8 [(32, 0), (33, 1), (34, 2), (31, 3), (35, 4), (36, 5), (37, 6), (7, 7), (8, 9), (9, 10)] [[], [], [0, 1], [0, 1, 2], [0, 1, 2, 3], [0, 1, 2, 3], [0, 1, 2, 3], [], [0, 1, 2, 3, 4, 7], [0, 1, 2, 3, 4, 5, 7, 8], [0, 1, 2, 3, 4, 5, 6, 7, 8, 9]] (rel [is (.agg #[.int .u8 ((sv 0)), .int .u8 ((sv 1)), .int .u8 ((sv 2)), .int .u8 ((sv 3)), .int .u8 ((sv 4)), .int .u8 ((sv 5)), .int .u8 ((sv 6)), .int .u8 ((sv 7)), .int .u8 ((sv 8)), .int .u8 ((sv 9)), .int .u8 ((sv 10)), .int .u8 ((sv 11)), .int .u8 ((sv 12)), .int .u8 ((sv 13)), .int .u8 ((sv 14)), .int .u8 ((sv 15)), .int .u8 ((sv 16)), .int .u8 ((sv 17)), .int .u8 ((sv 18)), .int .u8 ((sv 19)), .int .u8 ((sv 20)), .int .u8 ((sv 21)), .int .u8 ((sv 22)), .int .u8 ((sv 23)), .int .u8 ((sv 24)), .int .u8 ((sv 25)), .int .u8 ((sv 26)), .int .u8 ((sv 27)), .int .u8 ((sv 28)), .int .u8 ((sv 29)), .int .u8 ((sv 30))]),
   is (.slice (some ⟨g67', 0, none⟩) (3) (c68')),
   ab fun v W => ∃ x1 x2, v = .tuple #[.agg #[.int .i64 p.wide, .int .i64 p.tlo, .int .i64 p.thi, .int .i64 p.webs], x1, x2] ∧ IsOrdS 35 3 (os) x1 W ∧ IsPlanS 35 (2) (xs) x2 W,
   ab fun v W => ∃ x1 x2, v = .tuple #[.agg #[.int .i64 p.wide, .int .i64 p.tlo, .int .i64 p.thi, .int .i64 p.webs], x1, x2] ∧ IsOrdS 35 3 (os) x1 W ∧ IsPlanS 35 (2) (xs) x2 W,
   is (.agg #[.int .i64 p.wide, .int .i64 p.tlo, .int .i64 p.thi, .int .i64 p.webs]),
   ab fun v W => IsOrdS 35 3 (os) v W,
   ab fun v W => IsPlanS 35 (2) (xs) v W,
   bx 7 #[.int .i64 0, .int .i64 0, .int .i64 0, .int .i64 0] 35])
  ⟨is_k, is_k, ab_k fun v W W' hb ⟨x1, x2, e, h1, h2⟩ => ⟨x1, x2, e, (h1.below hb), (h2.below hb)⟩, ab_k fun v W W' hb ⟨x1, x2, e, h1, h2⟩ => ⟨x1, x2, e, (h1.below hb), (h2.below hb)⟩, is_k, ab_k fun v W W' hb h => (h.below hb), ab_k fun v W W' hb h => (h.below hb), bx_k, trivial⟩
  ⟨fun f s W hW q r u x m => opl rfl rfl rfl (m.v 1 k3_1) (blk_below b3_0 hW) Try.underlying27 rfl (by kernel_rfl) rfl,
  fun f s W hW q r u x m => opv rfl rfl (by simp [go_sem, m.e 5 k3_5]) rfl,
  fun f s W hW q r u x m => opDo_call (args := #[.agg #[.int .u8 ((sv 0)), .int .u8 ((sv 1)), .int .u8 ((sv 2)), .int .u8 ((sv 3)), .int .u8 ((sv 4)), .int .u8 ((sv 5)), .int .u8 ((sv 6)), .int .u8 ((sv 7)), .int .u8 ((sv 8)), .int .u8 ((sv 9)), .int .u8 ((sv 10)), .int .u8 ((sv 11)), .int .u8 ((sv 12)), .int .u8 ((sv 13)), .int .u8 ((sv 14)), .int .u8 ((sv 15)), .int .u8 ((sv 16)), .int .u8 ((sv 17)), .int .u8 ((sv 18)), .int .u8 ((sv 19)), .int .u8 ((sv 20)), .int .u8 ((sv 21)), .int .u8 ((sv 22)), .int .u8 ((sv 23)), .int .u8 ((sv 24)), .int .u8 ((sv 25)), .int .u8 ((sv 26)), .int .u8 ((sv 27)), .int .u8 ((sv 28)), .int .u8 ((sv 29)), .int .u8 ((sv 30))], .slice (some ⟨g67', 0, none⟩) (3) (c68')]) rfl rfl (by simp [go_sem, m.e 32 (q 0 rfl), m.e 33 (q 1 rfl)]) (hrun W _ _ ((q73'.below hW (Nat.le_refl _)))) ((fun e W' h => by obtain ⟨v2, v3, e1, h2, h3, h4⟩ := h; exact ⟨_, e1, h4, ⟨v2, v3, rfl, h2, h3⟩⟩)),
  fun f s W hW q r u x m => opv (v := (f 2)) rfl rfl (by simp [go_sem, (m.at' 34 rfl : x.tmps[34]?.getD undef = f 2)] <;> rfl) (q 2 rfl),
  fun f s W hW q r u x m => by obtain ⟨x3_1, x3_2, d3, p3_1, p3_2⟩ := (q 3 rfl); exact opv rfl rfl (by simp [go_sem, m.e 31 d3]) rfl,
  fun f s W hW q r u x m => by obtain ⟨x3_1, x3_2, d3, p3_1, p3_2⟩ := (q 3 rfl); exact opv (v := x3_1) rfl rfl (by simp [go_sem, m.e 31 d3]) p3_1,
  fun f s W hW q r u x m => by obtain ⟨x3_1, x3_2, d3, p3_1, p3_2⟩ := (q 3 rfl); exact opv (v := x3_2) rfl rfl (by simp [go_sem, m.e 31 d3]) p3_2,
  fun f s W hW q r u x m => opb rfl rfl (by simp [go_sem]), trivial⟩ ?_
 clear k3_1 k3_5
 intro f4 s4 W4 hB4 g4 hg4
 have fB4 := hB4.f fB3
 have z4 := hB4.below.size
 have b4_0 := hB4.b b3_0
 have q75' := (q71'.bw hB4)
 have q76' := (hB4.lt q72')
 have q77' := (q73'.bw hB4)
 have q78' := (hB4.lt q74')
 obtain ⟨g79', c80', r4_5, q81'⟩ := hB4.is 5
 obtain ⟨a82', c83', b84', o85', ad86', cp87', r4_6, q90', q89', q88'⟩ := hB4.is 6
 obtain ⟨r4_7, br4_7⟩ := hB4.is 7
 have lr4_7 := hB4.lr 7 br4_7
 have k4_2 := kt hg4 2 k3_2
 have k4_4 := kt hg4 4 k3_4
 have k4_35 := kt hg4 35 (hB4.is 4)
 have k4_36 := kt hg4 36 r4_5
 have k4_37 := kt hg4 37 r4_6
 have k4_7 := kt hg4 7 r4_7
 obtain ⟨W5, hW5⟩ : ∃ W', W' = W4.setRow (s4 7) #[.int .i64 p.wide, .int .i64 p.tlo, .int .i64 p.thi, .int .i64 p.webs] := ⟨_, rfl⟩
 refine tail_skip (o := _) rfl ⟨rfl, rfl⟩ (run_seg hW5 (fr_ev k4_7) (fr_ev k4_35) br4_7 rfl rfl rfl rfl) ?_
 obtain ⟨fB5, nb5, ot5, z5⟩ := seg_facts hW5 fB4 br4_7 (by omega)
 clear hW5
 have b5_0 := ot5 _ _ (by omega) b4_0
 have q91' := (q75'.other ot5 q76' (by omega) z5)
 have q92' := Nat.lt_of_lt_of_le q76' z5
 have q93' := (q77'.other ot5 q78' (by omega) z5)
 have q94' := Nat.lt_of_lt_of_le q78' z5
 have q95' := q81'.other ot5 (br4_7) z5
 have q96' := q88'.other ot5 (br4_7) z5
 have q97' := q89'
 have q98' := q90'
 refine tail_value (o := _) rfl rfl rfl (v := .slice (some ⟨g79', 0, none⟩) (3) (c80')) (by simp [go_sem, frv 183 k4_36]) ?_
 generalize hg6 : upd g4 8 (.slice (some ⟨g79', 0, none⟩) (3) (c80')) = g6
 have k6_2 := ku hg6 2 k4_2
 have k6_4 := ku hg6 4 k4_4
 have k6_37 := ku hg6 37 k4_37
 have k6_7 := ku hg6 7 k4_7
 have k6_8 := kt hg6 8 (upd_same _ _ _)
 refine tail_value (o := _) rfl rfl rfl (v := .slice (a82') (2) (c83')) (by simp [go_sem, frv 183 k6_37]) ?_
 generalize hg7 : upd g6 9 (.slice (a82') (2) (c83')) = g7
 have k7_2 := ku hg7 2 k6_2
 have k7_4 := ku hg7 4 k6_4
 have k7_7 := ku hg7 7 k6_7
 have k7_8 := ku hg7 8 k6_8
 have k7_9 := kt hg7 9 (upd_same _ _ _)
 refine wpOps_end ?_
 refine hK6 _ _ ?_
 have q99' : OrdR W5 g79' 0 3 (os) := q95'.here
 have q100' : SuR W5 b84' o85' (2) (xs) ad86' cp87' := q96'.here
 clear b3_0 b4_0 br4_7 fB3 fB4 hB4 hK6 hg4 hg6 hg7 k3_2 k3_4 k4_2 k4_35 k4_36 k4_37 k4_4 k4_7 k6_2 k6_37 k6_4 k6_7 k6_8 ot5 r4_5 r4_6 r4_7
 refine wp_seq_k fun K7 hK7 => ?_
 refine region_dk 9 [(39, 0), (40, 1), (41, 2), (42, 3), (38, 4), (43, 5), (44, 6), (10, 7), (11, 8)] [[], [], [1], [0, 1, 2], [0, 1, 2, 3], [0, 1, 2, 3, 4], [0, 1, 2, 3, 4], [0, 1, 2, 3, 4, 5], [0, 1, 2, 3, 4, 5, 6, 7]] (rel [is (.agg #[.int .i64 p.wide, .int .i64 p.tlo, .int .i64 p.thi, .int .i64 p.webs]),
   is (.slice (some ⟨g79', 0, none⟩) (3) (c80')),
   ab fun v W => IsOrd 3 (os) v W,
   ab fun v W => ∃ x0, v = .tuple #[x0, .int .i64 0] ∧ IsPlan (n) (ys) x0 W,
   ab fun v W => ∃ x0, v = .tuple #[x0, .int .i64 0] ∧ IsPlan (n) (ys) x0 W,
   ab fun v W => IsPlan (n) (ys) v W,
   is (.int .i64 0),
   ab fun v W => IsPlan (n) (ys) v W,
   is (.int .i64 0)])
  ⟨is_k, is_k, ab_k fun v W W' hb h => (h.below hb), ab_k fun v W W' hb ⟨x0, e, h0⟩ => ⟨x0, e, (h0.below hb)⟩, ab_k fun v W W' hb ⟨x0, e, h0⟩ => ⟨x0, e, (h0.below hb)⟩, ab_k fun v W W' hb h => (h.below hb), is_k, ab_k fun v W W' hb h => (h.below hb), is_k, trivial⟩
  ⟨fun f s W hW q r u x m => opl rfl rfl rfl (m.v 7 k7_7) (blk_below nb5 hW) Try.underlying35 rfl (by kernel_rfl) rfl,
  fun f s W hW q r u x m => opv rfl rfl (by simp [go_sem, m.e 8 k7_8]) rfl,
  fun f s W hW q r u x m => opDo_call rfl rfl (by simp [go_sem, m.e 40 (q 1 rfl)]) (pubOrders_any os g79' 0 3 c80' W ((q99'.below hW)) (by decide) (by decide)) ((fun e W' h => by obtain ⟨v, e1, h1, h2⟩ := h; exact ⟨_, e1, h2, h1⟩)),
  fun f s W hW q r u x m => by obtain ⟨g101', c102', d2, q103'⟩ := (q 2 rfl); exact opDo_call rfl rfl (by simp [go_sem, m.e 39 (q 0 rfl), m.e 41 d2]) (hplan W g101' c102' q103') ((fun e W' h => by obtain ⟨v, e1, h1, h2⟩ := h; exact ⟨_, e1, h2, ⟨v, rfl, h1⟩⟩)),
  fun f s W hW q r u x m => opv (v := (f 3)) rfl rfl (by simp [go_sem, (m.at' 42 rfl : x.tmps[42]?.getD undef = f 3)] <;> rfl) (q 3 rfl),
  fun f s W hW q r u x m => by obtain ⟨x4_0, d4, p4_0⟩ := (q 4 rfl); exact opv (v := x4_0) rfl rfl (by simp [go_sem, m.e 38 d4]) p4_0,
  fun f s W hW q r u x m => by obtain ⟨x4_0, d4, p4_0⟩ := (q 4 rfl); exact opv rfl rfl (by simp [go_sem, m.e 38 d4]) rfl,
  fun f s W hW q r u x m => opv (v := (f 5)) rfl rfl (by simp [go_sem, (m.at' 43 rfl : x.tmps[43]?.getD undef = f 5)] <;> rfl) (q 5 rfl),
  fun f s W hW q r u x m => opv rfl rfl (by simp [go_sem, m.e 44 (q 6 rfl)]) rfl, trivial⟩ ?_
 intro f8 s8 W8 hB8 g8 hg8
 have fB8 := hB8.f fB5
 have z8 := hB8.below.size
 have b8_0 := hB8.b b5_0
 have b8_1 := hB8.b nb5
 have q113' := (q91'.bw hB8)
 have q114' := (hB8.lt q92')
 have q115' := (q93'.bw hB8)
 have q116' := (hB8.lt q94')
 have q117' := (q99'.below hB8.below)
 have q118' := (q100'.below hB8.below)
 have q119' := q97'
 have q120' := q98'
 obtain ⟨a121', c122', b123', o124', ad125', cp126', r8_7, q129', q128', q127'⟩ := hB8.is 7
 refine hK7 _ _ ?_
 have k8_2 := kt hg8 2 k7_2
 have k8_4 := kt hg8 4 k7_4
 have k8_7 := kt hg8 7 k7_7
 have k8_8 := kt hg8 8 k7_8
 have k8_9 := kt hg8 9 k7_9
 have k8_10 := kt hg8 10 r8_7
 have k8_11 := kt hg8 11 (hB8.is 8)
 clear b5_0 fB5 hB8 hK7 hg8 k7_2 k7_4 k7_7 k7_8 k7_9 nb5 r8_7
 refine wp_seq_k fun K8 hK8 => ?_
 refine region_dk 15 [(46, 0), (47, 1), (48, 2), (49, 3), (50, 4), (51, 5), (45, 6), (52, 7), (53, 8), (54, 9), (55, 10), (12, 11), (13, 12), (14, 13), (15, 14)] [[], [], [1], [], [1, 2, 3], [0, 1, 2, 3, 4], [0, 1, 2, 3, 4, 5], [0, 1, 2, 3, 4, 5, 6], [0, 1, 2, 3, 4, 5, 6], [0, 1, 2, 3, 4, 5, 6], [0, 1, 2, 3, 4, 5, 6], [0, 1, 2, 3, 4, 5, 6, 7], [0, 1, 2, 3, 4, 5, 6, 7, 8, 11], [0, 1, 2, 3, 4, 5, 6, 7, 8, 9, 11, 12], [0, 1, 2, 3, 4, 5, 6, 7, 8, 9, 10, 11, 12, 13]] (rel [is (.agg #[.int .i64 p.wide, .int .i64 p.tlo, .int .i64 p.thi, .int .i64 p.webs]),
   is (.slice (some ⟨g79', 0, none⟩) (3) (c80')),
   ab fun v W => IsOrd 3 (os) v W,
   is (.slice (a121') (n) (c122')),
   ab fun v W => IsPlan (n) (ys) v W,
   ab fun v W => ∃ x0, v = .tuple #[x0, .int .i64 ((wasK p os ys n)), .int .i64 0, .int .i64 0] ∧ IsG (gotK ys n) x0 W,
   ab fun v W => ∃ x0, v = .tuple #[x0, .int .i64 ((wasK p os ys n)), .int .i64 0, .int .i64 0] ∧ IsG (gotK ys n) x0 W,
   ab fun v W => IsG (gotK ys n) v W,
   is (.int .i64 ((wasK p os ys n))),
   is (.int .i64 0),
   is (.int .i64 0),
   ab fun v W => IsG (gotK ys n) v W,
   is (.int .i64 ((wasK p os ys n))),
   is (.int .i64 0),
   is (.int .i64 0)])
  ⟨is_k, is_k, ab_k fun v W W' hb h => (h.below hb), is_k, ab_k fun v W W' hb h => (h.below hb), ab_k fun v W W' hb ⟨x0, e, h0⟩ => ⟨x0, e, (h0.below hb)⟩, ab_k fun v W W' hb ⟨x0, e, h0⟩ => ⟨x0, e, (h0.below hb)⟩, ab_k fun v W W' hb h => (h.below hb), is_k, is_k, is_k, ab_k fun v W W' hb h => (h.below hb), is_k, is_k, is_k, trivial⟩
  ⟨fun f s W hW q r u x m => opl rfl rfl rfl (m.v 7 k8_7) (blk_below b8_1 hW) Try.underlying35 rfl (by kernel_rfl) rfl,
  fun f s W hW q r u x m => opv rfl rfl (by simp [go_sem, m.e 8 k8_8]) rfl,
  fun f s W hW q r u x m => opDo_call rfl rfl (by simp [go_sem, m.e 47 (q 1 rfl)]) (pubOrders_any os g79' 0 3 c80' W ((q117'.below hW)) (by decide) (by decide)) ((fun e W' h => by obtain ⟨v, e1, h1, h2⟩ := h; exact ⟨_, e1, h2, h1⟩)),
  fun f s W hW q r u x m => opv rfl rfl (by simp [go_sem, m.e 10 k8_10]) rfl,
  fun f s W hW q r u x m => opDo_call rfl rfl (by simp [go_sem, m.e 49 (q 3 rfl)]) (pubPlan_any n c122' b123' o124' a121' ys ad125' cp126' W (q128') ((q127'.below hW)) (by omega) (fun j hj => by rw [hg.ln j hj]; decide)) ((fun e W' h => by obtain ⟨v, e1, h1, h2⟩ := h; exact ⟨_, e1, h2, h1⟩)),
  fun f s W hW q r u x m => by obtain ⟨g130', c131', d2, q132'⟩ := (q 2 rfl); obtain ⟨a133', c134', b135', o136', ad137', cp138', d4, q141', q140', q139'⟩ := (q 4 rfl); exact opDo_call rfl rfl (by simp [go_sem, m.e 46 (q 0 rfl), m.e 48 d2, m.e 50 d4]) (tr_Get p os g130' 0 c131' n c134' b135' o136' a133' ys ad137' cp138' W q132' hp ho q140' q139' hg hwr) ((fun e W' h => by obtain ⟨v, e1, h1, h2⟩ := h; exact ⟨_, e1, h2, ⟨v, rfl, h1⟩⟩)),
  fun f s W hW q r u x m => opv (v := (f 5)) rfl rfl (by simp [go_sem, (m.at' 51 rfl : x.tmps[51]?.getD undef = f 5)] <;> rfl) (q 5 rfl),
  fun f s W hW q r u x m => by obtain ⟨x6_0, d6, p6_0⟩ := (q 6 rfl); exact opv (v := x6_0) rfl rfl (by simp [go_sem, m.e 45 d6]) p6_0,
  fun f s W hW q r u x m => by obtain ⟨x6_0, d6, p6_0⟩ := (q 6 rfl); exact opv rfl rfl (by simp [go_sem, m.e 45 d6]) rfl,
  fun f s W hW q r u x m => by obtain ⟨x6_0, d6, p6_0⟩ := (q 6 rfl); exact opv rfl rfl (by simp [go_sem, m.e 45 d6]) rfl,
  fun f s W hW q r u x m => by obtain ⟨x6_0, d6, p6_0⟩ := (q 6 rfl); exact opv rfl rfl (by simp [go_sem, m.e 45 d6]) rfl,
  fun f s W hW q r u x m => opv (v := (f 7)) rfl rfl (by simp [go_sem, (m.at' 52 rfl : x.tmps[52]?.getD undef = f 7)] <;> rfl) (q 7 rfl),
  fun f s W hW q r u x m => opv rfl rfl (by simp [go_sem, m.e 53 (q 8 rfl)]) rfl,
  fun f s W hW q r u x m => opv rfl rfl (by simp [go_sem, m.e 54 (q 9 rfl)]) rfl,
  fun f s W hW q r u x m => opv rfl rfl (by simp [go_sem, m.e 55 (q 10 rfl)]) rfl, trivial⟩ ?_
 clear k8_7
 intro f9 s9 W9 hB9 g9 hg9
 have fB9 := hB9.f fB8
 have z9 := hB9.below.size
 have b9_0 := hB9.b b8_0
 have b9_1 := hB9.b b8_1
 have q146' := (q113'.bw hB9)
 have q147' := (hB9.lt q114')
 have q148' := (q115'.bw hB9)
 have q149' := (hB9.lt q116')
 have q150' := (q117'.below hB9.below)
 have q151' := (q118'.below hB9.below)
 have q152' := q119'
 have q153' := q120'
 have q154' := (q127'.below hB9.below)
 have q155' := q128'
 have q156' := q129'
 obtain ⟨g157', c158', r9_11, q159', q160'⟩ := hB9.is 11
 refine hK8 _ _ ?_
 have k9_2 := kt hg9 2 k8_2
 have k9_4 := kt hg9 4 k8_4
 have k9_8 := kt hg9 8 k8_8
 have k9_9 := kt hg9 9 k8_9
 have k9_10 := kt hg9 10 k8_10
 have k9_11 := kt hg9 11 k8_11
 have k9_12 := kt hg9 12 r9_11
 have k9_15 := kt hg9 15 (hB9.is 14)
 clear b8_0 b8_1 fB8 hB9 hK8 hg9 k8_10 k8_11 k8_2 k8_4 k8_8 k8_9 r9_11
 refine wp_seq_k fun K9 hK9 => ?_
 refine wp_seq_k fun K10 hK10 => ?_
 refine region_dk 18 [(56, 0), (57, 1), (58, 2), (59, 3), (60, 4), (61, 5), (62, 6), (63, 7), (64, 8), (65, 9), (66, 10), (67, 11), (68, 12), (69, 13), (70, 14), (71, 15), (72, 16), (73, 17)] [[], [0], [0, 1], [0, 1, 2], [0, 1, 2, 3], [0, 1, 2, 3, 4], [0, 1, 2, 3, 4, 5], [0, 1, 2, 3, 4, 5, 6], [0, 1, 2, 3, 4, 5, 6, 7], [0, 1, 2, 3, 4, 5, 6, 7, 8], [0, 1, 2, 3, 4, 5, 6, 7, 8, 9], [0, 1, 2, 3, 4, 5, 6, 7, 8, 9, 10], [0, 1, 2, 3, 4, 5, 6, 7, 8, 9, 10, 11], [0, 1, 2, 3, 4, 5, 6, 7, 8, 9, 10, 11, 12], [0, 1, 2, 3, 4, 5, 6, 7, 8, 9, 10, 11], [0, 1, 2, 3, 4, 5, 6, 7, 8, 9, 10, 11, 14], [0, 1, 2, 3, 4, 5, 6, 7, 8, 9, 10, 11, 12, 13, 14, 15], [0, 1, 2, 3, 4, 5, 6, 7, 8, 9, 10, 11, 12, 13, 14, 15, 16]] (rel [is (.int .i64 0),
   is (.bool false),
   is (.bool false),
   is (.int .i64 0),
   is (.bool false),
   is (.bool false),
   is (.bool false),
   is (.slice (some ⟨g157', 0, none⟩) (3) (c158')),
   is (.int .i64 3),
   is (.bool false),
   is (.bool false),
   is (.bool false),
   is (.slice (a121') (n) (c122')),
   is (.int .i64 ((n : Int))),
   is (.slice (a82') (2) (c83')),
   is (.int .i64 2),
   is (.bool false),
   is (.bool false)])
  ⟨is_k, is_k, is_k, is_k, is_k, is_k, is_k, is_k, is_k, is_k, is_k, is_k, is_k, is_k, is_k, is_k, is_k, is_k, trivial⟩
  ⟨fun f s W hW q r u x m => opv rfl rfl (by simp [go_sem, m.e 11 k9_11]) rfl,
  fun f s W hW q r u x m => opv rfl rfl (by simp [go_sem, m.e 56 (q 0 rfl)]) rfl,
  fun f s W hW q r u x m => opv rfl rfl (by simp [go_sem, m.e 57 (q 1 rfl)]) rfl,
  fun f s W hW q r u x m => osure rfl rfl (m.says (d := 58) rfl rfl (q 2 rfl)) (gv (by simp [go_sem, m.e 15 k9_15]) rfl),
  fun f s W hW q r u x m => osure rfl rfl (m.says (d := 58) rfl rfl (q 2 rfl)) (gv (by simp [go_sem, m.e 59 (q 3 rfl)]) rfl),
  fun f s W hW q r u x m => opk (c := false) rfl rfl (fun _ => by simp [go_sem, m.e 58 (q 2 rfl), m.e 60 (q 4 rfl)]) (fun h => absurd h (by decide)),
  fun f s W hW q r u x m => opv rfl rfl (by simp [go_sem, m.e 61 (q 5 rfl)]) rfl,
  fun f s W hW q r u x m => osure rfl rfl (m.says (d := 62) rfl rfl (q 6 rfl)) (gv (by simp [go_sem, m.e 12 k9_12]) rfl),
  fun f s W hW q r u x m => osure rfl rfl (m.says (d := 62) rfl rfl (q 6 rfl)) (gv (by simp [go_sem, m.e 63 (q 7 rfl)]) rfl),
  fun f s W hW q r u x m => osure rfl rfl (m.says (d := 62) rfl rfl (q 6 rfl)) (gv (by simp [go_sem, m.e 64 (q 8 rfl)]) rfl),
  fun f s W hW q r u x m => opk (c := false) rfl rfl (fun _ => by simp [go_sem, m.e 62 (q 6 rfl), m.e 65 (q 9 rfl)]) (fun h => absurd h (by decide)),
  fun f s W hW q r u x m => opv rfl rfl (by simp [go_sem, m.e 66 (q 10 rfl)]) rfl,
  fun f s W hW q r u x m => osure rfl rfl (m.says (d := 67) rfl rfl (q 11 rfl)) (gv (by simp [go_sem, m.e 10 k9_10]) rfl),
  fun f s W hW q r u x m => osure rfl rfl (m.says (d := 67) rfl rfl (q 11 rfl)) (gv (by simp [go_sem, m.e 68 (q 12 rfl)]) rfl),
  fun f s W hW q r u x m => osure rfl rfl (m.says (d := 67) rfl rfl (q 11 rfl)) (gv (by simp [go_sem, m.e 9 k9_9]) rfl),
  fun f s W hW q r u x m => osure rfl rfl (m.says (d := 67) rfl rfl (q 11 rfl)) (gv (by simp [go_sem, m.e 70 (q 14 rfl)]) rfl),
  fun f s W hW q r u x m => osure rfl rfl (m.says (d := 67) rfl rfl (q 11 rfl)) (gv (by simp [go_sem, m.e 69 (q 13 rfl), m.e 71 (q 15 rfl), dq2]) rfl),
  fun f s W hW q r u x m => opk (c := false) rfl rfl (fun _ => by simp [go_sem, m.e 67 (q 11 rfl), m.e 72 (q 16 rfl)]) (fun h => absurd h (by decide)), trivial⟩ ?_
 clear k9_11 k9_15 k9_9
 intro f10 s10 W10 hB10 g10 hg10
 have fB10 := hB10.f fB9
 have z10 := hB10.below.size
 have b10_0 := hB10.b b9_0
 have b10_1 := hB10.b b9_1
 have q161' := (q146'.bw hB10)
 have q162' := (hB10.lt q147')
 have q163' := (q148'.bw hB10)
 have q164' := (hB10.lt q149')
 have q165' := (q150'.below hB10.below)
 have q166' := (q151'.below hB10.below)
 have q167' := q152'
 have q168' := q153'
 have q169' := (q154'.below hB10.below)
 have q170' := q155'
 have q171' := q156'
 have q172' := (q159'.bw hB10)
 have q173' := (hB10.lt q160')
 refine hK10 _ _ ?_
 have k10_2 := kt hg10 2 k9_2
 have k10_4 := kt hg10 4 k9_4
 have k10_8 := kt hg10 8 k9_8
 have k10_10 := kt hg10 10 k9_10
 have k10_12 := kt hg10 12 k9_12
 have k10_73 := kt hg10 73 (hB10.is 17)
 clear b9_0 b9_1 fB9 hB10 hK10 hg10 k9_10 k9_12 k9_2 k9_4 k9_8
 refine wp_cond_false ((fr_eval rfl).trans k10_73) ?_
 clear k10_73
 refine wp_skip ?_
 refine hK9 _ _ ?_
 clear hK9
 refine wp_seq_k fun K12 hK12 => ?_
 refine wp_seq_k fun K13 hK13 => ?_
 refine region_dk 1 [(16, 0)] [[]] (rel [is (.int .i64 0)])
  ⟨is_k, trivial⟩
  ⟨fun f s W hW q r u x m => opv rfl rfl (by simp [go_sem]) rfl, trivial⟩ ?_
 intro f11 s11 W11 hB11 g11 hg11
 have fB11 := hB11.f fB10
 have z11 := hB11.below.size
 have b11_0 := hB11.b b10_0
 have b11_1 := hB11.b b10_1
 have q174' := (q161'.bw hB11)
 have q175' := (hB11.lt q162')
 have q176' := (q163'.bw hB11)
 have q177' := (hB11.lt q164')
 have q178' := (q165'.below hB11.below)
 have q179' := (q166'.below hB11.below)
 have q180' := q167'
 have q181' := q168'
 have q182' := (q169'.below hB11.below)
 have q183' := q170'
 have q184' := q171'
 have q185' := (q172'.bw hB11)
 have q186' := (hB11.lt q173')
 refine hK13 _ _ ?_
 have k11_2 := kt hg11 2 k10_2
 have k11_4 := kt hg11 4 k10_4
 have k11_8 := kt hg11 8 k10_8
 have k11_10 := kt hg11 10 k10_10
 have k11_12 := kt hg11 12 k10_12
 have k11_16 := kt hg11 16 (hB11.is 0)
 have fA12 : Below W11.heap.size W11 W11 := Below.refl _ _
 clear b10_0 b10_1 b11_0 b11_1 fB10 hB11 hK13 hg11 k10_10 k10_12 k10_2 k10_4 k10_8
 refine wp_block ?_
 refine wp_loop_n (fun m_ a_ W_ => ∃ g_ : Nat → Value, a_ = fr 183 g_ ∧ (∃ k : Nat, m_ = 3 - k ∧ g_ 2 = .bool false ∧ g_ 4 = .slice (some ⟨g63', 0, none⟩) (3) (c64') ∧ g_ 8 = .slice (some ⟨g79', 0, none⟩) (3) (c80') ∧ g_ 10 = .slice (a121') (n) (c122') ∧ g_ 12 = .slice (some ⟨g157', 0, none⟩) (3) (c158') ∧ g_ 16 = .int .i64 ((k : Int)) ∧ Below w.heap.size w W_ ∧ W11.heap.size ≤ W_.heap.size ∧ Below W11.heap.size W11 W_ ∧ (k ≤ 3))) ⟨_, g11, rfl, 0, rfl, k11_2, k11_4, k11_8, k11_10, k11_12, k11_16.trans (by rfl), fB11, Nat.le_refl _, fA12, (by omega)⟩ ?_
 rintro _ _ W_187 ⟨g_187, rfl, k, rfl, k_187_2, k_187_4, k_187_8, k_187_10, k_187_12, k_187_16, fB_187, z_187, fA_187, lk0⟩
 clear fB11 k11_10 k11_12 k11_16 k11_2 k11_4 k11_8
 refine wp_seq_k fun K14 hK14 => ?_
 refine wp_seq_k fun K15 hK15 => ?_
 refine region_dk 2 [(74, 0), (75, 1)] [[], [0]] (rel [is (.int .i64 ((k : Int))),
   is (.bool (decide ((k : Int) < 3)))])
  ⟨is_k, is_k, trivial⟩
  ⟨fun f s W hW q r u x m => opv rfl rfl (by simp [go_sem, m.e 16 k_187_16]) rfl,
  fun f s W hW q r u x m => opv rfl rfl (by simp [go_sem, m.e 74 (q 0 rfl)]) rfl, trivial⟩ ?_
 intro f13 s13 W13 hB13 g13 hg13
 have fB13 := hB13.f fB_187
 have z13 := hB13.below.size
 have fA13 := hB13.f fA_187
 refine hK15 _ _ ?_
 have k13_2 := kt hg13 2 k_187_2
 have k13_4 := kt hg13 4 k_187_4
 have k13_8 := kt hg13 8 k_187_8
 have k13_10 := kt hg13 10 k_187_10
 have k13_12 := kt hg13 12 k_187_12
 have k13_16 := kt hg13 16 k_187_16
 have k13_75 := kt hg13 75 (hB13.is 1)
 clear hB13 hK15 hg13
 refine wp_cond_split (t := decide ((k : Int) < 3)) ((fr_eval rfl).trans k13_75) (fun hc16 => ?_) (fun hc16 => ?_)
 ·
  have hc16' := hc16; try simp only [ba] at hc16'
  have hk3 : k < 3 := by omega
  have hac_ := hacl k hk3
  have hgb_ := gotK_bd hg n (Nat.le_refl _) k
  have hsn_ := shS_bd hg hac_.1 k n (Nat.le_refl _)
  have hma_ := tr_mul hsn_.1 (show 0 ≤ elT acl k ∧ elT acl k ≤ 5000 by omega)
  have hmb_ := tr_mul (show 0 ≤ (shS ys (elT acl k) k n + wbS ys k n) ∧ (shS ys (elT acl k) k n + wbS ys k n) ≤ 400000 by omega) (show 0 ≤ elT acl k ∧ elT acl k ≤ 5000 by omega)
  have hl_ := hlaw k hk3
  have hgk_ := hgot k hk3
  clear k13_75
  refine wp_skip ?_
  refine hK14 _ _ ?_
  clear hK14
  refine wp_seq_k fun K17 hK17 => ?_
  refine wp_block ?_
  refine wp_seq_k fun K18 hK18 => ?_
  refine region_dk 2 [(17, 0), (18, 1)] [[], [0]] (rel [is (.int .i64 0),
   is (.int .i64 0)])
   ⟨is_k, is_k, trivial⟩
   ⟨fun f s W hW q r u x m => opv rfl rfl (by simp [go_sem]) rfl,
  fun f s W hW q r u x m => opv rfl rfl (by simp [go_sem]) rfl, trivial⟩ ?_
  intro f14 s14 W14 hB14 g14 hg14
  have fB14 := hB14.f fB13
  have z14 := hB14.below.size
  have fA14 := hB14.f fA13
  refine hK18 _ _ ?_
  have k14_2 := kt hg14 2 k13_2
  have k14_4 := kt hg14 4 k13_4
  have k14_8 := kt hg14 8 k13_8
  have k14_10 := kt hg14 10 k13_10
  have k14_12 := kt hg14 12 k13_12
  have k14_16 := kt hg14 16 k13_16
  have k14_17 := kt hg14 17 (hB14.is 0)
  have k14_18 := kt hg14 18 (hB14.is 1)
  clear hB14 hK18 hg14 k13_10 k13_12 k13_16 k13_2 k13_4 k13_8
  refine wp_seq_k fun K19 hK19 => ?_
  refine wp_seq_k fun K20 hK20 => ?_
  refine region_dk 1 [(19, 0)] [[]] (rel [is (.int .i64 0)])
   ⟨is_k, trivial⟩
   ⟨fun f s W hW q r u x m => opv rfl rfl (by simp [go_sem]) rfl, trivial⟩ ?_
  intro f15 s15 W15 hB15 g15 hg15
  have fB15 := hB15.f fB14
  have z15 := hB15.below.size
  have fA15 := hB15.f fA14
  refine hK20 _ _ ?_
  have k15_2 := kt hg15 2 k14_2
  have k15_4 := kt hg15 4 k14_4
  have k15_8 := kt hg15 8 k14_8
  have k15_10 := kt hg15 10 k14_10
  have k15_12 := kt hg15 12 k14_12
  have k15_16 := kt hg15 16 k14_16
  have k15_17 := kt hg15 17 k14_17
  have k15_18 := kt hg15 18 k14_18
  have k15_19 := kt hg15 19 (hB15.is 0)
  clear fB14 hB15 hK20 hg15 k14_10 k14_12 k14_16 k14_17 k14_18 k14_2 k14_4 k14_8
  refine wp_block ?_
  refine wp_loop_n (fun m_ a_ W_ => ∃ g_ : Nat → Value, a_ = fr 183 g_ ∧ (∃ j : Nat, m_ = n - j ∧ g_ 2 = .bool false ∧ g_ 4 = .slice (some ⟨g63', 0, none⟩) (3) (c64') ∧ g_ 8 = .slice (some ⟨g79', 0, none⟩) (3) (c80') ∧ g_ 10 = .slice (a121') (n) (c122') ∧ g_ 12 = .slice (some ⟨g157', 0, none⟩) (3) (c158') ∧ g_ 16 = .int .i64 ((k : Int)) ∧ g_ 19 = .int .i64 ((j : Int)) ∧ g_ 17 = .int .i64 ((shS ys (elT acl k) k j)) ∧ g_ 18 = .int .i64 ((wbS ys k j)) ∧ Below w.heap.size w W_ ∧ W15.heap.size ≤ W_.heap.size ∧ Below W11.heap.size W11 W_ ∧ (j ≤ n))) ⟨_, g15, rfl, 0, rfl, k15_2, k15_4, k15_8, k15_10, k15_12, k15_16, k15_19.trans (by rfl), k15_17.trans rfl, k15_18.trans rfl, fB15, Nat.le_refl _, fA15, (by omega)⟩ ?_
  rintro _ _ W_188 ⟨g_188, rfl, j, rfl, k_188_2, k_188_4, k_188_8, k_188_10, k_188_12, k_188_16, k_188_19, k_188_17, k_188_18, fB_188, z_188, fA_188, lj0⟩
  clear fB15 k15_10 k15_12 k15_16 k15_17 k15_18 k15_19 k15_2 k15_4 k15_8
  refine wp_seq_k fun K21 hK21 => ?_
  refine wp_seq_k fun K22 hK22 => ?_
  refine region_dk 4 [(78, 0), (79, 1), (80, 2), (81, 3)] [[], [], [1], [0, 1, 2]] (rel [is (.int .i64 ((j : Int))),
   is (.slice (a121') (n) (c122')),
   is (.int .i64 ((n : Int))),
   is (.bool (decide ((j : Int) < (n : Int))))])
   ⟨is_k, is_k, is_k, is_k, trivial⟩
   ⟨fun f s W hW q r u x m => opv rfl rfl (by simp [go_sem, m.e 19 k_188_19]) rfl,
  fun f s W hW q r u x m => opv rfl rfl (by simp [go_sem, m.e 10 k_188_10]) rfl,
  fun f s W hW q r u x m => opv rfl rfl (by simp [go_sem, m.e 79 (q 1 rfl)]) rfl,
  fun f s W hW q r u x m => opv rfl rfl (by simp [go_sem, m.e 78 (q 0 rfl), m.e 80 (q 2 rfl)]) rfl, trivial⟩ ?_
  intro f16 s16 W16 hB16 g16 hg16
  have fB16 := hB16.f fB_188
  have z16 := hB16.below.size
  have fA16 := hB16.f fA_188
  refine hK22 _ _ ?_
  have k16_2 := kt hg16 2 k_188_2
  have k16_4 := kt hg16 4 k_188_4
  have k16_8 := kt hg16 8 k_188_8
  have k16_10 := kt hg16 10 k_188_10
  have k16_12 := kt hg16 12 k_188_12
  have k16_16 := kt hg16 16 k_188_16
  have k16_19 := kt hg16 19 k_188_19
  have k16_17 := kt hg16 17 k_188_17
  have k16_18 := kt hg16 18 k_188_18
  have k16_81 := kt hg16 81 (hB16.is 3)
  clear hB16 hK22 hg16
  refine wp_cond_split (t := decide ((j : Int) < (n : Int))) ((fr_eval rfl).trans k16_81) (fun hc23 => ?_) (fun hc23 => ?_)
  ·
   have hc23' := hc23; try simp only [ba] at hc23'
   have hj2 : j < n := by omega
   have hrj_ := hg.rn j hj2
   have hwj_ := getD_bd (hg.bd j hj2) (by decide) k
   have hsj_ := shF_bd (rn := (ys j).2) hac_.1 (by omega)
   have hmj_ := tr_mul hwj_ hsj_
   have hgj_ := shS_bd hg hac_.1 k j (by omega)
   have dqn : (((ys j).1.length : Int) != 3) = false := by rw [hg.ln j hj2]; rfl
   obtain ⟨bwj, owj, hwj⟩ := ii_addr (q182'.2 j hj2).2.2 (by rw [hg.ln j hj2]; decide)
   clear k16_81
   refine wp_skip ?_
   refine hK21 _ _ ?_
   clear hK21
   refine wp_seq_k fun K24 hK24 => ?_
   refine wp_block ?_
   refine wp_seq_k fun K25 hK25 => ?_
   refine region_doL (LeT (W16.heap.size) 33 (justC (#[.int .i64 ((shF (elT acl k) (ys j).2)), .int .i64 ((shF (elT acl k) (ys j).2))]))) LeT.refl (LeT.drew justC_b) LeT.trans (fun _ _ h => h.size) 15 [(85, 0), (86, 1), (87, 2), (88, 3), (89, 4), (90, 5), (91, 6), (92, 7), (93, 8), (94, 9), (84, 10), (95, 11), (96, 12), (20, 13), (21, 15)] [[], [], [0, 1], [0, 1, 2], [], [], [4, 5], [4, 5, 6], [4, 5, 6, 7], [0, 1, 2, 3, 4, 5, 6, 7, 8], [0, 1, 2, 3, 4, 5, 6, 7, 8, 9], [0, 1, 2, 3, 4, 5, 6, 7, 8, 9, 10], [0, 1, 2, 3, 4, 5, 6, 7, 8, 9, 10], [], [0, 1, 2, 3, 4, 5, 6, 7, 8, 9, 10, 11, 13], [0, 1, 2, 3, 4, 5, 6, 7, 8, 9, 10, 11, 12, 13, 14]] (rel [is (.slice (some ⟨g63', 0, none⟩) (3) (c64')),
   is (.int .i64 ((k : Int))),
   is (.pointer (some ⟨g63', k, none⟩)),
   is (.int .i64 ((elT acl k))),
   is (.slice (a121') (n) (c122')),
   is (.int .i64 ((j : Int))),
   is (.pointer (some ⟨b123', o124' + j * 2, none⟩)),
   is (.pointer (some ⟨b123', o124' + j * 2 + 1, none⟩)),
   is (.int .i64 ((ys j).2)),
   is (.tuple #[.agg #[.int .i64 ((shF (elT acl k) ((ys j).2))), .int .i64 ((shF (elT acl k) ((ys j).2)))], .int .i64 0]),
   is (.tuple #[.agg #[.int .i64 ((shF (elT acl k) ((ys j).2))), .int .i64 ((shF (elT acl k) ((ys j).2)))], .int .i64 0]),
   is (.agg #[.int .i64 ((shF (elT acl k) ((ys j).2))), .int .i64 ((shF (elT acl k) ((ys j).2)))]),
   is (.int .i64 0),
   boxT (W16.heap.size) 33 2 13,
   stoT (W16.heap.size) 33 (justC (#[.int .i64 ((shF (elT acl k) (ys j).2)), .int .i64 ((shF (elT acl k) (ys j).2))])) 13]) (by kernel_rfl) (by kernel_rfl) (by kernel_rfl) (by kernel_rfl)
    ⟨is_kl, is_kl, is_kl, is_kl, is_kl, is_kl, is_kl, is_kl, is_kl, is_kl, is_kl, is_kl, is_kl, boxT_k, stoT_k (by simp), trivial⟩
    ⟨fun f s W hT q r u x m => by have hW := LeT.below hT (Nat.le_refl _); exact OpDo.l (LeT.of_below justC_b) (opv rfl rfl (by simp [go_sem, m.e 4 k16_4]) rfl),
  fun f s W hT q r u x m => by have hW := LeT.below hT (Nat.le_refl _); exact OpDo.l (LeT.of_below justC_b) (opv rfl rfl (by simp [go_sem, m.e 16 k16_16]) rfl),
  fun f s W hT q r u x m => by have hW := LeT.below hT (Nat.le_refl _); exact OpDo.l (LeT.of_below justC_b) (by have li_ := Nat.not_le.2 (show k < 3 by omega); have li2_ : (k : Int) < 3 := (by omega); exact opv rfl rfl (by simp [go_sem, m.e 85 (q 0 rfl), m.e 86 (q 1 rfl), li_, li2_]) rfl),
  fun f s W hT q r u x m => by have hW := LeT.below hT (Nat.le_refl _); exact OpDo.l (LeT.of_below justC_b) (by have aW := below_trans fA16 hW; have cu_ := ii_at3 (q174'.below aW (Nat.le_refl _)) (show k < 3 by omega); exact opv rfl rfl (by simp [go_sem, m.e 87 (q 2 rfl), cu_]) rfl),
  fun f s W hT q r u x m => by have hW := LeT.below hT (Nat.le_refl _); exact OpDo.l (LeT.of_below justC_b) (opv rfl rfl (by simp [go_sem, m.e 10 k16_10]) rfl),
  fun f s W hT q r u x m => by have hW := LeT.below hT (Nat.le_refl _); exact OpDo.l (LeT.of_below justC_b) (opv rfl rfl (by simp [go_sem, m.e 19 k16_19]) rfl),
  fun f s W hT q r u x m => by have hW := LeT.below hT (Nat.le_refl _); exact OpDo.l (LeT.of_below justC_b) (by have li_ := Nat.not_le.2 (show j < n by omega); have li2_ : ((j : Nat) : Int) < (n : Int) := (by omega); have hab := q183' (by omega); exact opv rfl rfl (by simp [go_sem, m.e 89 (q 4 rfl), m.e 90 (q 5 rfl), li_, li2_, hab]) rfl),
  fun f s W hT q r u x m => by have hW := LeT.below hT (Nat.le_refl _); exact OpDo.l (LeT.of_below justC_b) (opv rfl rfl (by simp [go_sem, m.e 91 (q 6 rfl)]) rfl),
  fun f s W hT q r u x m => by have hW := LeT.below hT (Nat.le_refl _); exact OpDo.l (LeT.of_below justC_b) (by have aW := below_trans fA16 hW; have cu_ := (q182'.below aW).2 j (by omega); have cu0_ := cu_.1; have cu1_ := cu_.2.1; exact opv rfl rfl (by simp [go_sem, m.e 92 (q 7 rfl), cu0_, cu1_]) rfl),
  fun f s W hT q r u x m => by have hW := LeT.below hT (Nat.le_refl _); exact OpDo.l (LeT.of_below justC_b) (opDo_call (args := #[.int .i64 ((elT acl k)), .int .i64 ((ys j).2), .int .i64 0]) rfl rfl (by simp [go_sem, m.e 88 (q 3 rfl), m.e 93 (q 8 rfl)]) (tr_Sheets ((elT acl k)) ((ys j).2) 0 W hac_ (by omega) (by decide)) ((fun e W' h => by have h1 := h.1; rw [Int.add_zero, Int.sub_zero] at h1; exact ⟨_, h1, h.2, rfl⟩))),
  fun f s W hT q r u x m => by have hW := LeT.below hT (Nat.le_refl _); exact OpDo.l (LeT.of_below justC_b) (opv rfl rfl (by simp [go_sem, m.e 94 (q 9 rfl)]) rfl),
  fun f s W hT q r u x m => by have hW := LeT.below hT (Nat.le_refl _); exact OpDo.l (LeT.of_below justC_b) (opv rfl rfl (by simp [go_sem, m.e 84 (q 10 rfl)]) rfl),
  fun f s W hT q r u x m => by have hW := LeT.below hT (Nat.le_refl _); exact OpDo.l (LeT.of_below justC_b) (opv rfl rfl (by simp [go_sem, m.e 84 (q 10 rfl)]) rfl),
  fun f s W hT q r u x m => opT (cs := #[.int .i64 0, .int .i64 0]) justC_b (hT.size) rfl rfl (by simp [go_sem]) rfl,
  fun f s W hT q r u x m => by exact stoT_do (#[.int .i64 ((shF (elT acl k) (ys j).2)), .int .i64 ((shF (elT acl k) (ys j).2))]) rfl (by decide) (q 13 rfl) (m.v 20 (q 13 rfl).1) (m.v 95 (q 11 rfl)) rfl rfl (by rfl) (by rfl) ((rfl : justC (#[.int .i64 ((shF (elT acl k) (ys j).2)), .int .i64 ((shF (elT acl k) (ys j).2))]) (#[.int .i64 ((shF (elT acl k) (ys j).2)), .int .i64 ((shF (elT acl k) (ys j).2))]) W)) (fun _ _ _ h => h) (fun _ _ _ _ _ h => h), trivial⟩ ?_
   intro f17 s17 W17 hB17
   have hb17 := LeT.below hB17.le (Nat.le_refl _)
   have fB17 := below_trans fB16 hb17
   have z17 : W16.heap.size ≤ W17.heap.size := hb17.size
   have fA17 := below_trans fA16 hb17
   obtain ⟨r17_13, lb17, -⟩ := hB17.is 13
   obtain ⟨-, cs17, bs17, hG17⟩ := hB17.is 14
   have hG17' : cs17 = #[.int .i64 ((shF (elT acl k) (ys j).2)), .int .i64 ((shF (elT acl k) (ys j).2))] := hG17
   subst hG17'
   have lr17_13 : W16.heap.size ≤ s17 13 ∧ s17 13 < W17.heap.size := ⟨lb17, lt_of_blk bs17⟩
   generalize hg17 : ov [(85, 0), (86, 1), (87, 2), (88, 3), (89, 4), (90, 5), (91, 6), (92, 7), (93, 8), (94, 9), (84, 10), (95, 11), (96, 12), (20, 13), (21, 15)] f17 g16 = g17
   have k17_2 := kt hg17 2 k16_2
   have k17_4 := kt hg17 4 k16_4
   have k17_8 := kt hg17 8 k16_8
   have k17_10 := kt hg17 10 k16_10
   have k17_12 := kt hg17 12 k16_12
   have k17_16 := kt hg17 16 k16_16
   have k17_19 := kt hg17 19 k16_19
   have k17_17 := kt hg17 17 k16_17
   have k17_18 := kt hg17 18 k16_18
   have k17_20 := kt hg17 20 r17_13
   have k17_96 := kt hg17 96 (hB17.is 12)
   refine tail_value (o := _) rfl rfl rfl (v := .int .i64 0) (by simp [go_sem, frv 183 k17_96]) ?_
   generalize hg18 : upd g17 21 (.int .i64 0) = g18
   have k18_2 := ku hg18 2 k17_2
   have k18_4 := ku hg18 4 k17_4
   have k18_8 := ku hg18 8 k17_8
   have k18_10 := ku hg18 10 k17_10
   have k18_12 := ku hg18 12 k17_12
   have k18_16 := ku hg18 16 k17_16
   have k18_19 := ku hg18 19 k17_19
   have k18_17 := ku hg18 17 k17_17
   have k18_18 := ku hg18 18 k17_18
   have k18_20 := ku hg18 20 k17_20
   have k18_21 := kt hg18 21 (upd_same _ _ _)
   refine wpOps_end ?_
   refine hK25 _ _ ?_
   clear hB17 hg17 hg18 k16_19 k17_10 k17_12 k17_16 k17_17 k17_18 k17_19 k17_2 k17_20 k17_4 k17_8 k17_96 r17_13
   refine wp_seq_k fun K26 hK26 => ?_
   refine wp_seq_k fun K27 hK27 => ?_
   refine region_dk 18 [(97, 0), (98, 1), (99, 2), (100, 3), (101, 4), (102, 5), (103, 6), (104, 7), (105, 8), (106, 9), (107, 10), (108, 11), (109, 12), (110, 13), (111, 14), (112, 15), (113, 16), (114, 17)] [[], [0], [0, 1], [0, 1, 2], [0, 1, 2, 3], [0, 1, 2], [0, 1, 2, 5], [0, 1, 2, 3, 4, 5, 6], [0, 1, 2, 3, 4, 5, 6, 7], [0, 1, 2, 3, 4, 5, 6, 7, 8], [0, 1, 2, 3, 4, 5, 6, 7, 8, 9], [0, 1, 2, 3, 4, 5, 6, 7, 8, 9], [0, 1, 2, 3, 4, 5, 6, 7, 8, 9, 10, 11], [0, 1, 2, 3, 4, 5, 6, 7, 8, 9, 10, 11, 12], [0, 1, 2, 3, 4, 5, 6, 7, 8, 9, 10, 11, 12, 13], [0, 1, 2, 3, 4, 5, 6, 7, 8, 9, 10, 11, 12, 13, 14], [0, 1, 2, 3, 4, 5, 6, 7, 8, 9, 10, 11, 12, 13, 14, 15], [0, 1, 2, 3, 4, 5, 6, 7, 8, 9, 10, 11, 12, 13, 14, 15, 16]] (rel [is (.int .i64 0),
   is (.bool false),
   is (.bool false),
   is (.pointer (some ⟨(s17 13), 0, none⟩)),
   is (.int .i64 ((shF (elT acl k) (ys j).2))),
   is (.pointer (some ⟨(s17 13), 1, none⟩)),
   is (.int .i64 ((shF (elT acl k) (ys j).2))),
   is (.bool false),
   is (.bool false),
   is (.bool false),
   is (.slice (a121') (n) (c122')),
   is (.int .i64 ((j : Int))),
   is (.pointer (some ⟨b123', o124' + j * 2, none⟩)),
   is (.pointer (some ⟨b123', o124' + j * 2, none⟩)),
   is (.slice ((ad125' j)) ((ys j).1.length) ((cp126' j))),
   is (.int .i64 (((ys j).1.length : Int))),
   is (.bool false),
   is (.bool false)])
    ⟨is_k, is_k, is_k, is_k, is_k, is_k, is_k, is_k, is_k, is_k, is_k, is_k, is_k, is_k, is_k, is_k, is_k, is_k, trivial⟩
    ⟨fun f s W hW q r u x m => opv rfl rfl (by simp [go_sem, m.e 21 k18_21]) rfl,
  fun f s W hW q r u x m => opv rfl rfl (by simp [go_sem, m.e 97 (q 0 rfl)]) rfl,
  fun f s W hW q r u x m => opv rfl rfl (by simp [go_sem, m.e 98 (q 1 rfl)]) rfl,
  fun f s W hW q r u x m => osure rfl rfl (m.says (d := 99) rfl rfl (q 2 rfl)) (gv (by simp [go_sem, m.e 20 k18_20]) rfl),
  fun f s W hW q r u x m => osure rfl rfl (m.says (d := 99) rfl rfl (q 2 rfl)) (gv (by simp [go_sem, m.e 100 (q 3 rfl), cb bs17 hW 0]) rfl),
  fun f s W hW q r u x m => osure rfl rfl (m.says (d := 99) rfl rfl (q 2 rfl)) (gv (by simp [go_sem, m.e 20 k18_20]) rfl),
  fun f s W hW q r u x m => osure rfl rfl (m.says (d := 99) rfl rfl (q 2 rfl)) (gv (by simp [go_sem, m.e 102 (q 5 rfl), cb bs17 hW 1]) rfl),
  fun f s W hW q r u x m => osure rfl rfl (m.says (d := 99) rfl rfl (q 2 rfl)) (gv (by simp [go_sem, m.e 101 (q 4 rfl), m.e 103 (q 6 rfl)]) rfl),
  fun f s W hW q r u x m => opk (c := false) rfl rfl (fun _ => by simp [go_sem, m.e 99 (q 2 rfl), m.e 104 (q 7 rfl)]) (fun h => absurd h (by decide)),
  fun f s W hW q r u x m => opv rfl rfl (by simp [go_sem, m.e 105 (q 8 rfl)]) rfl,
  fun f s W hW q r u x m => osure rfl rfl (m.says (d := 106) rfl rfl (q 9 rfl)) (gv (by simp [go_sem, m.e 10 k18_10]) rfl),
  fun f s W hW q r u x m => osure rfl rfl (m.says (d := 106) rfl rfl (q 9 rfl)) (gv (by simp [go_sem, m.e 19 k18_19]) rfl),
  fun f s W hW q r u x m => osure rfl rfl (m.says (d := 106) rfl rfl (q 9 rfl)) (by have li_ := Nat.not_le.2 (show j < n by omega); have li2_ : ((j : Nat) : Int) < (n : Int) := (by omega); have hab := q183' (by omega); exact gv (by simp [go_sem, m.e 107 (q 10 rfl), m.e 108 (q 11 rfl), li_, li2_, hab]) rfl),
  fun f s W hW q r u x m => osure rfl rfl (m.says (d := 106) rfl rfl (q 9 rfl)) (gv (by simp [go_sem, m.e 109 (q 12 rfl)]) rfl),
  fun f s W hW q r u x m => osure rfl rfl (m.says (d := 106) rfl rfl (q 9 rfl)) (by have aW := below_trans fA17 hW; have cu_ := (q182'.below aW).2 j (by omega); have cu0_ := cu_.1; have cu1_ := cu_.2.1; exact gv (by simp [go_sem, m.e 110 (q 13 rfl), cu0_, cu1_]) rfl),
  fun f s W hW q r u x m => osure rfl rfl (m.says (d := 106) rfl rfl (q 9 rfl)) (gv (by simp [go_sem, m.e 111 (q 14 rfl)]) rfl),
  fun f s W hW q r u x m => osure rfl rfl (m.says (d := 106) rfl rfl (q 9 rfl)) (gv (by simp [go_sem, m.e 112 (q 15 rfl), dqn]) rfl),
  fun f s W hW q r u x m => opk (c := false) rfl rfl (fun _ => by simp [go_sem, m.e 106 (q 9 rfl), m.e 113 (q 16 rfl)]) (fun h => absurd h (by decide)), trivial⟩ ?_
   intro f19 s19 W19 hB19 g19 hg19
   have fB19 := hB19.f fB17
   have z19 := hB19.below.size
   have fA19 := hB19.f fA17
   have b19_2 := hB19.b bs17
   refine hK27 _ _ ?_
   have k19_2 := kt hg19 2 k18_2
   have k19_4 := kt hg19 4 k18_4
   have k19_8 := kt hg19 8 k18_8
   have k19_10 := kt hg19 10 k18_10
   have k19_12 := kt hg19 12 k18_12
   have k19_16 := kt hg19 16 k18_16
   have k19_19 := kt hg19 19 k18_19
   have k19_17 := kt hg19 17 k18_17
   have k19_18 := kt hg19 18 k18_18
   have k19_20 := kt hg19 20 k18_20
   have k19_114 := kt hg19 114 (hB19.is 17)
   clear hB19 hg19
   refine wp_cond_false ((fr_eval rfl).trans k19_114) ?_
   clear k19_114
   refine wp_skip ?_
   refine hK26 _ _ ?_
   refine region_dk 25 [(115, 0), (116, 1), (117, 2), (118, 3), (119, 4), (120, 5), (121, 6), (122, 7), (123, 8), (124, 9), (125, 10), (126, 11), (127, 12), (128, 13), (129, 14), (130, 15), (131, 16), (132, 17), (133, 18), (134, 19), (135, 20), (136, 21), (137, 22), (17, 23), (18, 24)] [[], [], [], [1, 2], [1, 2, 3], [1, 2, 3, 4], [], [1, 2, 3, 4, 5, 6], [1, 2, 3, 4, 5, 6, 7], [], [9], [1, 2, 3, 4, 5, 6, 7, 8, 9, 10], [0, 1, 2, 3, 4, 5, 6, 7, 8, 9, 10, 11], [], [], [], [14, 15], [14, 15, 16], [14, 15, 16, 17], [], [14, 15, 16, 17, 18, 19], [14, 15, 16, 17, 18, 19, 20], [13, 14, 15, 16, 17, 18, 19, 20, 21], [0, 1, 2, 3, 4, 5, 6, 7, 8, 9, 10, 11, 12], [0, 1, 2, 3, 4, 5, 6, 7, 8, 9, 10, 11, 12, 13, 14, 15, 16, 17, 18, 19, 20, 21, 22, 23]] (rel [is (.int .i64 ((shS ys (elT acl k) k j))),
   is (.slice (a121') (n) (c122')),
   is (.int .i64 ((j : Int))),
   is (.pointer (some ⟨b123', o124' + j * 2, none⟩)),
   is (.pointer (some ⟨b123', o124' + j * 2, none⟩)),
   is (.slice ((ad125' j)) ((ys j).1.length) ((cp126' j))),
   is (.int .i64 ((k : Int))),
   is (.pointer (some ⟨bwj, owj + k, none⟩)),
   is (.int .i64 ((elT (ys j).1 k))),
   is (.pointer (some ⟨(s17 13), 0, none⟩)),
   is (.int .i64 ((shF (elT acl k) (ys j).2))),
   is (.int .i64 ((elT (ys j).1 k) * (shF (elT acl k) (ys j).2))),
   is (.int .i64 ((shS ys (elT acl k) k j) + ((elT (ys j).1 k) * (shF (elT acl k) (ys j).2)))),
   is (.int .i64 ((wbS ys k j))),
   is (.slice (a121') (n) (c122')),
   is (.int .i64 ((j : Int))),
   is (.pointer (some ⟨b123', o124' + j * 2, none⟩)),
   is (.pointer (some ⟨b123', o124' + j * 2, none⟩)),
   is (.slice ((ad125' j)) ((ys j).1.length) ((cp126' j))),
   is (.int .i64 ((k : Int))),
   is (.pointer (some ⟨bwj, owj + k, none⟩)),
   is (.int .i64 ((elT (ys j).1 k))),
   is (.int .i64 ((wbS ys k j) + (elT (ys j).1 k))),
   is (.int .i64 ((shS ys (elT acl k) k j) + ((elT (ys j).1 k) * (shF (elT acl k) (ys j).2)))),
   is (.int .i64 ((wbS ys k j) + (elT (ys j).1 k)))])
    ⟨is_k, is_k, is_k, is_k, is_k, is_k, is_k, is_k, is_k, is_k, is_k, is_k, is_k, is_k, is_k, is_k, is_k, is_k, is_k, is_k, is_k, is_k, is_k, is_k, is_k, trivial⟩
    ⟨fun f s W hW q r u x m => opv rfl rfl (by simp [go_sem, m.e 17 ((u 23 17 rfl rfl).trans k19_17)]) rfl,
  fun f s W hW q r u x m => opv rfl rfl (by simp [go_sem, m.e 10 k19_10]) rfl,
  fun f s W hW q r u x m => opv rfl rfl (by simp [go_sem, m.e 19 k19_19]) rfl,
  fun f s W hW q r u x m => by have li_ := Nat.not_le.2 (show j < n by omega); have li2_ : ((j : Nat) : Int) < (n : Int) := (by omega); have hab := q183' (by omega); exact opv rfl rfl (by simp [go_sem, m.e 116 (q 1 rfl), m.e 117 (q 2 rfl), li_, li2_, hab]) rfl,
  fun f s W hW q r u x m => opv rfl rfl (by simp [go_sem, m.e 118 (q 3 rfl)]) rfl,
  fun f s W hW q r u x m => by have aW := below_trans fA19 hW; have cu_ := (q182'.below aW).2 j (by omega); have cu0_ := cu_.1; have cu1_ := cu_.2.1; exact opv rfl rfl (by simp [go_sem, m.e 119 (q 4 rfl), cu0_, cu1_]) rfl,
  fun f s W hW q r u x m => opv rfl rfl (by simp [go_sem, m.e 16 k19_16]) rfl,
  fun f s W hW q r u x m => by have hab := hwj; have li_ := Nat.not_le.2 (show k < (ys j).1.length by rw [hg.ln j (by omega)]; omega); have li2_ : (k : Int) < ((ys j).1.length : Int) := (by rw [hg.ln j (by omega)]; omega); exact opv rfl rfl (by simp [go_sem, m.e 120 (q 5 rfl), m.e 121 (q 6 rfl), hab, li_, li2_]) rfl,
  fun f s W hW q r u x m => by have aW := below_trans fA19 hW; have cu_ := ii_atn ((q182'.below aW).2 j (by omega)).2.2 hwj (show k < (ys j).1.length by rw [hg.ln j (by omega)]; omega); exact opv rfl rfl (by simp [go_sem, m.e 122 (q 7 rfl), cu_]) rfl,
  fun f s W hW q r u x m => opv rfl rfl (by simp [go_sem, m.e 20 k19_20]) rfl,
  fun f s W hW q r u x m => opv rfl rfl (by simp [go_sem, m.e 124 (q 9 rfl), cb b19_2 hW 0]) rfl,
  fun f s W hW q r u x m => opv rfl rfl (by simp [go_sem, m.e 123 (q 8 rfl), m.e 125 (q 10 rfl), IntWalk.i64_in ((elT (ys j).1 k) * (shF (elT acl k) (ys j).2)) (by omega)]) rfl,
  fun f s W hW q r u x m => opv rfl rfl (by simp [go_sem, m.e 115 (q 0 rfl), m.e 126 (q 11 rfl), IntWalk.i64_in ((shS ys (elT acl k) k j) + ((elT (ys j).1 k) * (shF (elT acl k) (ys j).2))) (by omega)]) rfl,
  fun f s W hW q r u x m => opv rfl rfl (by simp [go_sem, m.e 18 ((u 24 18 rfl rfl).trans k19_18)]) rfl,
  fun f s W hW q r u x m => opv rfl rfl (by simp [go_sem, m.e 10 k19_10]) rfl,
  fun f s W hW q r u x m => opv rfl rfl (by simp [go_sem, m.e 19 k19_19]) rfl,
  fun f s W hW q r u x m => by have li_ := Nat.not_le.2 (show j < n by omega); have li2_ : ((j : Nat) : Int) < (n : Int) := (by omega); have hab := q183' (by omega); exact opv rfl rfl (by simp [go_sem, m.e 129 (q 14 rfl), m.e 130 (q 15 rfl), li_, li2_, hab]) rfl,
  fun f s W hW q r u x m => opv rfl rfl (by simp [go_sem, m.e 131 (q 16 rfl)]) rfl,
  fun f s W hW q r u x m => by have aW := below_trans fA19 hW; have cu_ := (q182'.below aW).2 j (by omega); have cu0_ := cu_.1; have cu1_ := cu_.2.1; exact opv rfl rfl (by simp [go_sem, m.e 132 (q 17 rfl), cu0_, cu1_]) rfl,
  fun f s W hW q r u x m => opv rfl rfl (by simp [go_sem, m.e 16 k19_16]) rfl,
  fun f s W hW q r u x m => by have hab := hwj; have li_ := Nat.not_le.2 (show k < (ys j).1.length by rw [hg.ln j (by omega)]; omega); have li2_ : (k : Int) < ((ys j).1.length : Int) := (by rw [hg.ln j (by omega)]; omega); exact opv rfl rfl (by simp [go_sem, m.e 133 (q 18 rfl), m.e 134 (q 19 rfl), hab, li_, li2_]) rfl,
  fun f s W hW q r u x m => by have aW := below_trans fA19 hW; have cu_ := ii_atn ((q182'.below aW).2 j (by omega)).2.2 hwj (show k < (ys j).1.length by rw [hg.ln j (by omega)]; omega); exact opv rfl rfl (by simp [go_sem, m.e 135 (q 20 rfl), cu_]) rfl,
  fun f s W hW q r u x m => opv rfl rfl (by simp [go_sem, m.e 128 (q 13 rfl), m.e 136 (q 21 rfl), IntWalk.i64_in ((wbS ys k j) + (elT (ys j).1 k)) (by omega)]) rfl,
  fun f s W hW q r u x m => opv rfl rfl (by simp [go_sem, m.e 127 (q 12 rfl)]) rfl,
  fun f s W hW q r u x m => opv rfl rfl (by simp [go_sem, m.e 137 (q 22 rfl)]) rfl, trivial⟩ ?_
   intro f20 s20 W20 hB20 g20 hg20
   have fB20 := hB20.f fB19
   have z20 := hB20.below.size
   have fA20 := hB20.f fA19
   have b20_2 := hB20.b b19_2
   refine wpOps_end ?_
   have k20_2 := kt hg20 2 k19_2
   have k20_4 := kt hg20 4 k19_4
   have k20_8 := kt hg20 8 k19_8
   have k20_10 := kt hg20 10 k19_10
   have k20_12 := kt hg20 12 k19_12
   have k20_16 := kt hg20 16 k19_16
   have k20_19 := kt hg20 19 k19_19
   have k20_17 := kt hg20 17 (hB20.is 23)
   have k20_18 := kt hg20 18 (hB20.is 24)
   refine inBlock_normal ?_
   refine hK24 _ _ ?_
   refine region_dk 3 [(82, 0), (83, 1), (19, 2)] [[], [0], [0, 1]] (rel [is (.int .i64 ((j : Int))),
   is (.int .i64 ((j : Int) + 1)),
   is (.int .i64 ((j : Int) + 1))])
    ⟨is_k, is_k, is_k, trivial⟩
    ⟨fun f s W hW q r u x m => opv rfl rfl (by simp [go_sem, m.e 19 ((u 2 19 rfl rfl).trans k20_19)]) rfl,
  fun f s W hW q r u x m => opv rfl rfl (by simp [go_sem, m.e 82 (q 0 rfl), IntWalk.i64_in ((j : Int) + 1) (by omega)]) rfl,
  fun f s W hW q r u x m => opv rfl rfl (by simp [go_sem, m.e 83 (q 1 rfl)]) rfl, trivial⟩ ?_
   intro f21 s21 W21 hB21 g21 hg21
   have fB21 := hB21.f fB20
   have z21 := hB21.below.size
   have fA21 := hB21.f fA20
   have b21_2 := hB21.b b20_2
   refine wpOps_end ?_
   have k21_2 := kt hg21 2 k20_2
   have k21_4 := kt hg21 4 k20_4
   have k21_8 := kt hg21 8 k20_8
   have k21_10 := kt hg21 10 k20_10
   have k21_12 := kt hg21 12 k20_12
   have k21_16 := kt hg21 16 k20_16
   have k21_17 := kt hg21 17 k20_17
   have k21_18 := kt hg21 18 k20_18
   have k21_19 := kt hg21 19 (hB21.is 2)
   refine then_normal ?_
   exact ⟨_, by omega, g21, rfl, j + 1, rfl, k21_2, k21_4, k21_8, k21_10, k21_12, k21_16, k21_19.trans (by go_num), k21_17.trans rfl, k21_18.trans rfl, fB21, (by omega), fA21, (by omega)⟩
  ·
   have hc23' := hc23; try simp only [ba] at hc23'
   have hj2 : j = n := by omega
   have hsj_ := shS_bd hg hac_.1 k j (by omega)
   have hma2_ := hma_
   have hmb2_ := hmb_
   rw [← hj2] at hma2_ hmb2_
   have dqa : (decide (((elT (gotK ys n) k) * 100000) < ((shS ys (elT acl k) k j) * (elT acl k)))) = false := by rw [hj2]; exact decide_eq_false (by omega)
   have dqb : (decide ((((shS ys (elT acl k) k j) + (wbS ys k j)) * (elT acl k)) < ((elT (gotK ys n) k) * 100000))) = false := by rw [hj2]; exact decide_eq_false (by omega)
   refine wp_exit ?_
   refine then_exit ?_
   refine then_exit ?_
   refine inBlock_at ?_
   refine hK19 _ _ ?_
   clear hK19
   refine wp_seq_k fun K29 hK29 => ?_
   refine region_dk 41 [(138, 0), (139, 1), (140, 2), (141, 3), (142, 4), (143, 5), (144, 6), (145, 7), (146, 8), (147, 9), (148, 10), (149, 11), (150, 12), (151, 13), (152, 14), (153, 15), (154, 16), (155, 17), (156, 18), (157, 19), (158, 20), (159, 21), (160, 22), (161, 23), (162, 24), (163, 25), (164, 26), (165, 27), (166, 28), (167, 29), (168, 30), (169, 31), (170, 32), (171, 33), (172, 34), (173, 35), (174, 36), (175, 37), (176, 38), (177, 39), (178, 40)] [[], [], [], [1, 2], [1, 2, 3], [0, 1, 2, 3, 4], [], [], [6, 7], [6, 7, 8], [6, 7, 8, 9], [0, 1, 2, 3, 4, 5, 6, 7, 8, 9, 10], [0, 1, 2, 3, 4, 5, 6, 7, 8, 9, 10, 11], [0, 1, 2, 3, 4, 5, 6, 7, 8, 9, 10, 11, 12], [0, 1, 2, 3, 4, 5, 6, 7, 8, 9, 10, 11, 12], [0, 1, 2, 3, 4, 5, 6, 7, 8, 9, 10, 11, 12, 13, 14], [0, 1, 2, 3, 4, 5, 6, 7, 8, 9, 10, 11, 12], [0, 1, 2, 3, 4, 5, 6, 7, 8, 9, 10, 11, 12], [0, 1, 2, 3, 4, 5, 6, 7, 8, 9, 10, 11, 12, 16, 17], [0, 1, 2, 3, 4, 5, 6, 7, 8, 9, 10, 11, 12, 16, 17, 18], [0, 1, 2, 3, 4, 5, 6, 7, 8, 9, 10, 11, 12, 13, 14, 15, 16, 17, 18, 19], [0, 1, 2, 3, 4, 5, 6, 7, 8, 9, 10, 11, 12], [0, 1, 2, 3, 4, 5, 6, 7, 8, 9, 10, 11, 12], [0, 1, 2, 3, 4, 5, 6, 7, 8, 9, 10, 11, 12, 21, 22], [0, 1, 2, 3, 4, 5, 6, 7, 8, 9, 10, 11, 12, 21, 22, 23], [0, 1, 2, 3, 4, 5, 6, 7, 8, 9, 10, 11, 12, 21, 22, 23, 24], [0, 1, 2, 3, 4, 5, 6, 7, 8, 9, 10, 11, 12, 13, 14, 15, 16, 17, 18, 19, 20, 21, 22, 23, 24, 25], [0, 1, 2, 3, 4, 5, 6, 7, 8, 9, 10, 11, 12, 13, 14, 15, 16, 17, 18, 19, 20, 21, 22, 23, 24, 25, 26], [0, 1, 2, 3, 4, 5, 6, 7, 8, 9, 10, 11, 12, 13, 14, 15, 16, 17, 18, 19, 20, 21, 22, 23, 24, 25, 26, 27], [0, 1, 2, 3, 4, 5, 6, 7, 8, 9, 10, 11, 12, 13, 14, 15, 16, 17, 18, 19, 20, 21, 22, 23, 24, 25, 26, 27, 28], [0, 1, 2, 3, 4, 5, 6, 7, 8, 9, 10, 11, 12, 13, 14, 15, 16, 17, 18, 19, 20, 21, 22, 23, 24, 25, 26, 27, 28], [0, 1, 2, 3, 4, 5, 6, 7, 8, 9, 10, 11, 12, 13, 14, 15, 16, 17, 18, 19, 20, 21, 22, 23, 24, 25, 26, 27, 28, 29, 30], [0, 1, 2, 3, 4, 5, 6, 7, 8, 9, 10, 11, 12, 13, 14, 15, 16, 17, 18, 19, 20, 21, 22, 23, 24, 25, 26, 27, 28, 29, 30, 31], [0, 1, 2, 3, 4, 5, 6, 7, 8, 9, 10, 11, 12, 13, 14, 15, 16, 17, 18, 19, 20, 21, 22, 23, 24, 25, 26, 27, 28, 29, 30, 31, 32], [0, 1, 2, 3, 4, 5, 6, 7, 8, 9, 10, 11, 12, 13, 14, 15, 16, 17, 18, 19, 20, 21, 22, 23, 24, 25, 26, 27, 28], [0, 1, 2, 3, 4, 5, 6, 7, 8, 9, 10, 11, 12, 13, 14, 15, 16, 17, 18, 19, 20, 21, 22, 23, 24, 25, 26, 27, 28], [0, 1, 2, 3, 4, 5, 6, 7, 8, 9, 10, 11, 12, 13, 14, 15, 16, 17, 18, 19, 20, 21, 22, 23, 24, 25, 26, 27, 28, 34, 35], [0, 1, 2, 3, 4, 5, 6, 7, 8, 9, 10, 11, 12, 13, 14, 15, 16, 17, 18, 19, 20, 21, 22, 23, 24, 25, 26, 27, 28, 34, 35, 36], [0, 1, 2, 3, 4, 5, 6, 7, 8, 9, 10, 11, 12, 13, 14, 15, 16, 17, 18, 19, 20, 21, 22, 23, 24, 25, 26, 27, 28, 29, 30, 31, 32, 33, 34, 35, 36, 37], [0, 1, 2, 3, 4, 5, 6, 7, 8, 9, 10, 11, 12, 13, 14, 15, 16, 17, 18, 19, 20, 21, 22, 23, 24, 25, 26, 27, 28, 29, 30, 31, 32, 33, 34, 35, 36, 37, 38], [0, 1, 2, 3, 4, 5, 6, 7, 8, 9, 10, 11, 12, 13, 14, 15, 16, 17, 18, 19, 20, 21, 22, 23, 24, 25, 26, 27, 28, 29, 30, 31, 32, 33, 34, 35, 36, 37, 38, 39]] (rel [is (.int .i64 ((shS ys (elT acl k) k j))),
   is (.slice (some ⟨g63', 0, none⟩) (3) (c64')),
   is (.int .i64 ((k : Int))),
   is (.pointer (some ⟨g63', k, none⟩)),
   is (.int .i64 ((elT acl k))),
   is (.int .i64 ((shS ys (elT acl k) k j) * (elT acl k))),
   is (.slice (some ⟨g157', 0, none⟩) (3) (c158')),
   is (.int .i64 ((k : Int))),
   is (.pointer (some ⟨g157', k, none⟩)),
   is (.int .i64 ((elT (gotK ys n) k))),
   is (.int .i64 ((elT (gotK ys n) k) * 100000)),
   is (.bool false),
   is (.bool false),
   is (.int .i64 ((shS ys (elT acl k) k j))),
   is (.int .i64 ((wbS ys k j))),
   is (.int .i64 ((shS ys (elT acl k) k j) + (wbS ys k j))),
   is (.slice (some ⟨g63', 0, none⟩) (3) (c64')),
   is (.int .i64 ((k : Int))),
   is (.pointer (some ⟨g63', k, none⟩)),
   is (.int .i64 ((elT acl k))),
   is (.int .i64 (((shS ys (elT acl k) k j) + (wbS ys k j)) * (elT acl k))),
   is (.slice (some ⟨g157', 0, none⟩) (3) (c158')),
   is (.int .i64 ((k : Int))),
   is (.pointer (some ⟨g157', k, none⟩)),
   is (.int .i64 ((elT (gotK ys n) k))),
   is (.int .i64 ((elT (gotK ys n) k) * 100000)),
   is (.bool false),
   is (.bool false),
   is (.bool false),
   is (.slice (some ⟨g79', 0, none⟩) (3) (c80')),
   is (.int .i64 ((k : Int))),
   is (.pointer (some ⟨g79', k * 3, none⟩)),
   is (.pointer (some ⟨g79', k * 3 + 1, none⟩)),
   is (.agg #[.int .i64 ((os k).lo), .int .i64 ((os k).hi)]),
   is (.slice (some ⟨g157', 0, none⟩) (3) (c158')),
   is (.int .i64 ((k : Int))),
   is (.pointer (some ⟨g157', k, none⟩)),
   is (.int .i64 ((elT (gotK ys n) k))),
   is (.bool true),
   is (.bool false),
   is (.bool false)])
    ⟨is_k, is_k, is_k, is_k, is_k, is_k, is_k, is_k, is_k, is_k, is_k, is_k, is_k, is_k, is_k, is_k, is_k, is_k, is_k, is_k, is_k, is_k, is_k, is_k, is_k, is_k, is_k, is_k, is_k, is_k, is_k, is_k, is_k, is_k, is_k, is_k, is_k, is_k, is_k, is_k, is_k, trivial⟩
    ⟨fun f s W hW q r u x m => opv rfl rfl (by simp [go_sem, m.e 17 k16_17]) rfl,
  fun f s W hW q r u x m => opv rfl rfl (by simp [go_sem, m.e 4 k16_4]) rfl,
  fun f s W hW q r u x m => opv rfl rfl (by simp [go_sem, m.e 16 k16_16]) rfl,
  fun f s W hW q r u x m => by have li_ := Nat.not_le.2 (show k < 3 by omega); have li2_ : (k : Int) < 3 := (by omega); exact opv rfl rfl (by simp [go_sem, m.e 139 (q 1 rfl), m.e 140 (q 2 rfl), li_, li2_]) rfl,
  fun f s W hW q r u x m => by have aW := below_trans fA16 hW; have cu_ := ii_at3 (q174'.below aW (Nat.le_refl _)) (show k < 3 by omega); exact opv rfl rfl (by simp [go_sem, m.e 141 (q 3 rfl), cu_]) rfl,
  fun f s W hW q r u x m => opv rfl rfl (by simp [go_sem, m.e 138 (q 0 rfl), m.e 142 (q 4 rfl), IntWalk.i64_in ((shS ys (elT acl k) k j) * (elT acl k)) (by omega)]) rfl,
  fun f s W hW q r u x m => opv rfl rfl (by simp [go_sem, m.e 12 k16_12]) rfl,
  fun f s W hW q r u x m => opv rfl rfl (by simp [go_sem, m.e 16 k16_16]) rfl,
  fun f s W hW q r u x m => by have li_ := Nat.not_le.2 (show k < 3 by omega); have li2_ : (k : Int) < 3 := (by omega); exact opv rfl rfl (by simp [go_sem, m.e 144 (q 6 rfl), m.e 145 (q 7 rfl), li_, li2_]) rfl,
  fun f s W hW q r u x m => by have aW := below_trans fA16 hW; have cu_ := ii_at3 (q185'.below aW (Nat.le_refl _)) (show k < 3 by omega); exact opv rfl rfl (by simp [go_sem, m.e 146 (q 8 rfl), cu_]) rfl,
  fun f s W hW q r u x m => opv rfl rfl (by simp [go_sem, m.e 147 (q 9 rfl), IntWalk.i64_in ((elT (gotK ys n) k) * 100000) (by omega)]) rfl,
  fun f s W hW q r u x m => opv rfl rfl (by simp [go_sem, m.e 143 (q 5 rfl), m.e 148 (q 10 rfl), dqa]) rfl,
  fun f s W hW q r u x m => opv rfl rfl (by simp [go_sem, m.e 149 (q 11 rfl)]) rfl,
  fun f s W hW q r u x m => osure rfl rfl (m.says (d := 150) rfl rfl (q 12 rfl)) (gv (by simp [go_sem, m.e 17 k16_17]) rfl),
  fun f s W hW q r u x m => osure rfl rfl (m.says (d := 150) rfl rfl (q 12 rfl)) (gv (by simp [go_sem, m.e 18 k16_18]) rfl),
  fun f s W hW q r u x m => osure rfl rfl (m.says (d := 150) rfl rfl (q 12 rfl)) (gv (by simp [go_sem, m.e 151 (q 13 rfl), m.e 152 (q 14 rfl), IntWalk.i64_in ((shS ys (elT acl k) k j) + (wbS ys k j)) (by omega)]) rfl),
  fun f s W hW q r u x m => osure rfl rfl (m.says (d := 150) rfl rfl (q 12 rfl)) (gv (by simp [go_sem, m.e 4 k16_4]) rfl),
  fun f s W hW q r u x m => osure rfl rfl (m.says (d := 150) rfl rfl (q 12 rfl)) (gv (by simp [go_sem, m.e 16 k16_16]) rfl),
  fun f s W hW q r u x m => osure rfl rfl (m.says (d := 150) rfl rfl (q 12 rfl)) (by have li_ := Nat.not_le.2 (show k < 3 by omega); have li2_ : (k : Int) < 3 := (by omega); exact gv (by simp [go_sem, m.e 154 (q 16 rfl), m.e 155 (q 17 rfl), li_, li2_]) rfl),
  fun f s W hW q r u x m => osure rfl rfl (m.says (d := 150) rfl rfl (q 12 rfl)) (by have aW := below_trans fA16 hW; have cu_ := ii_at3 (q174'.below aW (Nat.le_refl _)) (show k < 3 by omega); exact gv (by simp [go_sem, m.e 156 (q 18 rfl), cu_]) rfl),
  fun f s W hW q r u x m => osure rfl rfl (m.says (d := 150) rfl rfl (q 12 rfl)) (gv (by simp [go_sem, m.e 153 (q 15 rfl), m.e 157 (q 19 rfl), IntWalk.i64_in (((shS ys (elT acl k) k j) + (wbS ys k j)) * (elT acl k)) (by omega)]) rfl),
  fun f s W hW q r u x m => osure rfl rfl (m.says (d := 150) rfl rfl (q 12 rfl)) (gv (by simp [go_sem, m.e 12 k16_12]) rfl),
  fun f s W hW q r u x m => osure rfl rfl (m.says (d := 150) rfl rfl (q 12 rfl)) (gv (by simp [go_sem, m.e 16 k16_16]) rfl),
  fun f s W hW q r u x m => osure rfl rfl (m.says (d := 150) rfl rfl (q 12 rfl)) (by have li_ := Nat.not_le.2 (show k < 3 by omega); have li2_ : (k : Int) < 3 := (by omega); exact gv (by simp [go_sem, m.e 159 (q 21 rfl), m.e 160 (q 22 rfl), li_, li2_]) rfl),
  fun f s W hW q r u x m => osure rfl rfl (m.says (d := 150) rfl rfl (q 12 rfl)) (by have aW := below_trans fA16 hW; have cu_ := ii_at3 (q185'.below aW (Nat.le_refl _)) (show k < 3 by omega); exact gv (by simp [go_sem, m.e 161 (q 23 rfl), cu_]) rfl),
  fun f s W hW q r u x m => osure rfl rfl (m.says (d := 150) rfl rfl (q 12 rfl)) (gv (by simp [go_sem, m.e 162 (q 24 rfl), IntWalk.i64_in ((elT (gotK ys n) k) * 100000) (by omega)]) rfl),
  fun f s W hW q r u x m => osure rfl rfl (m.says (d := 150) rfl rfl (q 12 rfl)) (gv (by simp [go_sem, m.e 158 (q 20 rfl), m.e 163 (q 25 rfl), dqb]) rfl),
  fun f s W hW q r u x m => opk (c := false) rfl rfl (fun _ => by simp [go_sem, m.e 150 (q 12 rfl), m.e 164 (q 26 rfl)]) (fun h => absurd h (by decide)),
  fun f s W hW q r u x m => opv rfl rfl (by simp [go_sem, m.e 165 (q 27 rfl)]) rfl,
  fun f s W hW q r u x m => osure rfl rfl (m.says (d := 166) rfl rfl (q 28 rfl)) (gv (by simp [go_sem, m.e 8 k16_8]) rfl),
  fun f s W hW q r u x m => osure rfl rfl (m.says (d := 166) rfl rfl (q 28 rfl)) (gv (by simp [go_sem, m.e 16 k16_16]) rfl),
  fun f s W hW q r u x m => osure rfl rfl (m.says (d := 166) rfl rfl (q 28 rfl)) (by have li_ := Nat.not_le.2 (show k < 3 by omega); have li2_ : (k : Int) < 3 := (by omega); exact gv (by simp [go_sem, m.e 167 (q 29 rfl), m.e 168 (q 30 rfl), li_, li2_]) rfl),
  fun f s W hW q r u x m => osure rfl rfl (m.says (d := 166) rfl rfl (q 28 rfl)) (gv (by simp [go_sem, m.e 169 (q 31 rfl)]) rfl),
  fun f s W hW q r u x m => osure rfl rfl (m.says (d := 166) rfl rfl (q 28 rfl)) (by have aW := below_trans fA16 hW; have cu_ := (q178'.below aW).2 k (by omega); rw [Nat.zero_add] at cu_; have cu0_ : W.cell? ⟨g79', k * 3, none⟩ = some (.int .i64 (os k).wd) := cu_.1; have cu1_ : W.cell? ⟨g79', k * 3 + 1, none⟩ = some (.int .i64 (os k).lo) := cu_.2.1; have cu2_ : W.cell? ⟨g79', k * 3 + 2, none⟩ = some (.int .i64 (os k).hi) := cu_.2.2; have cu3_ : W.cell? ⟨g79', k * 3 + 1 + 1, none⟩ = some (.int .i64 (os k).hi) := cu_.2.2; exact gv (by simp [go_sem, m.e 170 (q 32 rfl), cu0_, cu1_, cu2_, cu3_]) rfl),
  fun f s W hW q r u x m => osure rfl rfl (m.says (d := 166) rfl rfl (q 28 rfl)) (gv (by simp [go_sem, m.e 12 k16_12]) rfl),
  fun f s W hW q r u x m => osure rfl rfl (m.says (d := 166) rfl rfl (q 28 rfl)) (gv (by simp [go_sem, m.e 16 k16_16]) rfl),
  fun f s W hW q r u x m => osure rfl rfl (m.says (d := 166) rfl rfl (q 28 rfl)) (by have li_ := Nat.not_le.2 (show k < 3 by omega); have li2_ : (k : Int) < 3 := (by omega); exact gv (by simp [go_sem, m.e 172 (q 34 rfl), m.e 173 (q 35 rfl), li_, li2_]) rfl),
  fun f s W hW q r u x m => osure rfl rfl (m.says (d := 166) rfl rfl (q 28 rfl)) (by have aW := below_trans fA16 hW; have cu_ := ii_at3 (q185'.below aW (Nat.le_refl _)) (show k < 3 by omega); exact gv (by simp [go_sem, m.e 174 (q 36 rfl), cu_]) rfl),
  fun f s W hW q r u x m => osure rfl rfl (m.says (d := 166) rfl rfl (q 28 rfl)) (gc (by simp [go_sem, m.e 171 (q 33 rfl), m.e 175 (q 37 rfl)]) (pubHas_yes ((os k).lo) ((os k).hi) ((elT (gotK ys n) k)) W (decide_eq_true hgk_.1) (decide_eq_true hgk_.2))),
  fun f s W hW q r u x m => osure rfl rfl (m.says (d := 166) rfl rfl (q 28 rfl)) (gv (by simp [go_sem, m.e 176 (q 38 rfl)]) rfl),
  fun f s W hW q r u x m => opk (c := false) rfl rfl (fun _ => by simp [go_sem, m.e 166 (q 28 rfl), m.e 177 (q 39 rfl)]) (fun h => absurd h (by decide)), trivial⟩ ?_
   clear k16_17 k16_18
   intro f22 s22 W22 hB22 g22 hg22
   have fB22 := hB22.f fB16
   have z22 := hB22.below.size
   have fA22 := hB22.f fA16
   refine hK29 _ _ ?_
   have k22_2 := kt hg22 2 k16_2
   have k22_4 := kt hg22 4 k16_4
   have k22_8 := kt hg22 8 k16_8
   have k22_10 := kt hg22 10 k16_10
   have k22_12 := kt hg22 12 k16_12
   have k22_16 := kt hg22 16 k16_16
   have k22_178 := kt hg22 178 (hB22.is 40)
   clear fB16 hB22 hg22 k16_10 k16_12 k16_16 k16_2 k16_4 k16_8
   refine wp_cond_false ((fr_eval rfl).trans k22_178) ?_
   clear k22_178
   refine wp_skip ?_
   refine inBlock_normal ?_
   refine hK17 _ _ ?_
   refine region_dk 3 [(76, 0), (77, 1), (16, 2)] [[], [0], [0, 1]] (rel [is (.int .i64 ((k : Int))),
   is (.int .i64 ((k : Int) + 1)),
   is (.int .i64 ((k : Int) + 1))])
    ⟨is_k, is_k, is_k, trivial⟩
    ⟨fun f s W hW q r u x m => opv rfl rfl (by simp [go_sem, m.e 16 ((u 2 16 rfl rfl).trans k22_16)]) rfl,
  fun f s W hW q r u x m => opv rfl rfl (by simp [go_sem, m.e 76 (q 0 rfl), IntWalk.i64_in ((k : Int) + 1) (by omega)]) rfl,
  fun f s W hW q r u x m => opv rfl rfl (by simp [go_sem, m.e 77 (q 1 rfl)]) rfl, trivial⟩ ?_
   clear hK17
   intro f23 s23 W23 hB23 g23 hg23
   have fB23 := hB23.f fB22
   have z23 := hB23.below.size
   have fA23 := hB23.f fA22
   refine wpOps_end ?_
   have k23_2 := kt hg23 2 k22_2
   have k23_4 := kt hg23 4 k22_4
   have k23_8 := kt hg23 8 k22_8
   have k23_10 := kt hg23 10 k22_10
   have k23_12 := kt hg23 12 k22_12
   have k23_16 := kt hg23 16 (hB23.is 2)
   refine then_normal ?_
   exact ⟨_, by omega, g23, rfl, k + 1, rfl, k23_2, k23_4, k23_8, k23_10, k23_12, k23_16.trans (by go_num), fB23, (by omega), fA23, (by omega)⟩
 ·
  have hc16' := hc16; try simp only [ba] at hc16'
  have hk3 : k = 3 := by omega
  refine wp_exit ?_
  refine then_exit ?_
  refine then_exit ?_
  refine inBlock_at ?_
  refine hK12 _ _ ?_
  clear hK12
  refine wp_seq_k fun K31 hK31 => ?_
  refine region_dk 5 [(179, 0), (180, 1), (181, 2), (182, 3), (2, 4)] [[], [0], [0, 1], [0, 1, 2], [0, 1, 2, 3]] (rel [is (.bool true),
   is (.bool true),
   is (.bool true),
   is (.bool true),
   is (.bool true)])
   ⟨is_k, is_k, is_k, is_k, is_k, trivial⟩
   ⟨fun f s W hW q r u x m => opc rfl rfl (by simp [go_sem]) (pubScore_yes W),
  fun f s W hW q r u x m => opv rfl rfl (by simp [go_sem, m.e 179 (q 0 rfl)]) rfl,
  fun f s W hW q r u x m => osure rfl rfl (m.says (d := 180) rfl rfl (q 1 rfl)) (gc (by simp [go_sem]) (pubTrim_yes W)),
  fun f s W hW q r u x m => opk (c := true) rfl rfl (fun h => absurd h (by decide)) (fun _ => by simp [go_sem, m.e 180 (q 1 rfl), m.e 181 (q 2 rfl)]),
  fun f s W hW q r u x m => opv rfl rfl (by simp [go_sem, m.e 182 (q 3 rfl)]) rfl, trivial⟩ ?_
  intro f24 s24 W24 hB24 g24 hg24
  have fB24 := hB24.f fB13
  have z24 := hB24.below.size
  have fA24 := hB24.f fA13
  refine hK31 _ _ ?_
  have k24_2 := kt hg24 2 (hB24.is 4)
  clear fB13 hB24 hK31 hg24
  refine wp_ret ?_
  refine leave_one (N := 183) (v := .bool true) (.inr rfl) Try.results5 rfl k24_2 ?_
  exact ⟨rfl, fB24⟩
end Go.Proofs.Ytnhipdbdolabkaa
