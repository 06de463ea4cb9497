/- Part of the proof: what the claim leans on. -/
import Derived.Test.YthnediamopehfaaWAR
import Derived.Test.YthnediamopehfaaWAT
set_option linter.unusedSimpArgs false
set_option linter.unusedVariables false
namespace Go.Proofs.Ythnediamopehfaa
open Go.RowKit
/-- A panel will do: by itself, and beside it the flaps at each end. -/
def okP (w : Wi) (c off p : Int) (us : List (Int × Int)) (i : Nat) : Bool := isInOf p 1 c (targetOf w i) && !(us.any fun u => badF w c off p u i)
set_option maxRecDepth 100000 in
set_option maxHeartbeats 400000 in
theorem closesP_0_2 (x0 x1 x2 x3 x4 x5 x6 : Value) (l1 h1 l2 h2 l3 h3 l4 h4 l5 h5 : Int) (wo : Bool) (hw : WishIn ⟨(l1, h1), (l2, h2), (l3, h3), (l4, h4), (l5, h5), wo⟩) (p c off v0 v1 v2 v3 : Int) (q0 o0 m0 q1 o1 m1 gq cap : Nat) (D1 D2 D3 D4 D5 : Nat) (w : World) (hgq : gq < w.heap.size) (e0 : w.cell? ⟨gq, 0, none⟩ = some (.slice (some ⟨q0, o0, none⟩) 2 m0)) (hI0 : Ii w (some ⟨q0, o0, none⟩) 2 m0 [v0, v1]) (hv0 : 0 ≤ v0) (hv0' : v0 ≤ 3000) (hv1 : 0 ≤ v1) (hv1' : v1 ≤ 3000) (e1 : w.cell? ⟨gq, 1, none⟩ = some (.slice (some ⟨q1, o1, none⟩) 2 m1)) (hI1 : Ii w (some ⟨q1, o1, none⟩) 2 m1 [v2, v3]) (hv2 : 0 ≤ v2) (hv2' : v2 ≤ 3000) (hv3 : 0 ≤ v3) (hv3' : v3 ≤ 3000) (hp1 : 0 ≤ p) (hp2 : p ≤ 3000) (hc1 : 0 ≤ c) (hc2 : c ≤ 100000) (ho1 : 0 ≤ off) (ho2 : off ≤ 5) (u1 : w.heap[D1]? = some (.cells #[.int .i64 c] 3 (0, 0))) (u2 : w.heap[D2]? = some (.cells #[.int .i64 l1, .int .i64 h1, .int .i64 l2, .int .i64 h2, .int .i64 l3, .int .i64 h3, .int .i64 l4, .int .i64 h4, .int .i64 l5, .int .i64 h5, .bool wo] 69 (0, 0))) (u3 : w.heap[D3]? = some (.cells #[.int .i64 0] 3 (0, 0))) (u4 : w.heap[D4]? = some (.cells #[x0, x1, x2, x3, x4, x5, x6, .int .i64 off] 104 (0, 0))) (u5 : w.heap[D5]? = some (.cells #[.slice (some ⟨gq, 0, none⟩) (2) (cap)] 107 (0, 0))) :
  Calls Try.prog 79 #[.int .i64 p, .pointer (some ⟨D1, 0, none⟩), .pointer (some ⟨D2, 0, none⟩), .pointer (some ⟨D3, 0, none⟩), .pointer (some ⟨D4, 0, none⟩), .pointer (some ⟨D5, 0, none⟩)] w (fun e w' => e = .returned (.bool (okP ⟨(l1, h1), (l2, h2), (l3, h3), (l4, h4), (l5, h5), wo⟩ c off p [(v0, v1), (v2, v3)] 0)) ∧ Below w.heap.size w w') := by
 have tb : -10000 ≤ (targetOf ⟨(l1, h1), (l2, h2), (l3, h3), (l4, h4), (l5, h5), wo⟩ 0).1 ∧ (targetOf ⟨(l1, h1), (l2, h2), (l3, h3), (l4, h4), (l5, h5), wo⟩ 0).1 ≤ 10000 ∧ -10000 ≤ (targetOf ⟨(l1, h1), (l2, h2), (l3, h3), (l4, h4), (l5, h5), wo⟩ 0).2 ∧ (targetOf ⟨(l1, h1), (l2, h2), (l3, h3), (l4, h4), (l5, h5), wo⟩ 0).2 ≤ 10000 := by have h := targetOf_in hw 0; omega
 refine calls_fr Try.func79 Try.ntmps79 rfl rfl fun g hg => ?_
 have k0 : g 0 = .int .i64 p := hg 0
 have k1 : g 1 = .pointer (some ⟨D1, 0, none⟩) := hg 1
 have k2 : g 2 = .pointer (some ⟨D2, 0, none⟩) := hg 2
 have k3 : g 3 = .pointer (some ⟨D3, 0, none⟩) := hg 3
 have k4 : g 4 = .pointer (some ⟨D4, 0, none⟩) := hg 4
 have k5 : g 5 = .pointer (some ⟨D5, 0, none⟩) := hg 5
 clear hg
 have fB0 : Below w.heap.size w w := Below.refl _ _
 have lt_D1 := lt_of_blk u1
 have lt_D2 := lt_of_blk u2
 have lt_D3 := lt_of_blk u3
 have lt_D4 := lt_of_blk u4
 have lt_D5 := lt_of_blk u5
 refine wp_seq_k fun K1 hK1 => ?_
 refine region_dk 2 [(6, 0), (7, 1)] [[], []] (rel [bx 0 #[.int .i64 p] 3,
   is (.bool false)])
  ⟨bx_k, is_k, trivial⟩
  ⟨fun f s W d i j k l a => opb rfl rfl (by simp [go_sem, a.e 0 k0]),
  fun f s W d i j k l a => opv rfl rfl (by simp [go_sem]) rfl, trivial⟩ ?_
 intro f1 s1 W1 hB1 g1 hg1
 have fB1 := hB1.f fB0
 have z1 := hB1.below.size
 have b1_0 := hB1.b u1
 have b1_1 := hB1.b u2
 have b1_2 := hB1.b u3
 have b1_3 := hB1.b u4
 have b1_4 := hB1.b u5
 obtain ⟨r1_0, br1_0⟩ := hB1.is 0
 have lr1_0 := hB1.lr 0 br1_0
 refine hK1 _ _ ?_
 have k1_1 := kt hg1 1 k1
 have k1_2 := kt hg1 2 k2
 have k1_3 := kt hg1 3 k3
 have k1_4 := kt hg1 4 k4
 have k1_5 := kt hg1 5 k5
 have k1_6 := kt hg1 6 r1_0
 have k1_7 := kt hg1 7 (hB1.is 1)
 refine wp_seq_k fun K2 hK2 => ?_
 refine wp_seq_k fun K3 hK3 => ?_
 refine region_dk 7 [(9, 0), (10, 1), (11, 2), (12, 3), (13, 4), (14, 5), (15, 6)] [[], [], [], [], [2, 3], [0, 1, 2, 3, 4], [0, 1, 2, 3, 4, 5]] (rel [is (.int .i64 p),
   is (.int .i64 c),
   is (.agg #[.int .i64 l1, .int .i64 h1, .int .i64 l2, .int .i64 h2, .int .i64 l3, .int .i64 h3, .int .i64 l4, .int .i64 h4, .int .i64 l5, .int .i64 h5, .bool wo]),
   is (.int .i64 0),
   is (.agg #[.int .i64 ((targetOf ⟨(l1, h1), (l2, h2), (l3, h3), (l4, h4), (l5, h5), wo⟩ 0).1), .int .i64 ((targetOf ⟨(l1, h1), (l2, h2), (l3, h3), (l4, h4), (l5, h5), wo⟩ 0).2)]),
   is (.bool (isInOf p 1 c (targetOf ⟨(l1, h1), (l2, h2), (l3, h3), (l4, h4), (l5, h5), wo⟩ 0))),
   is (.bool (!(isInOf p 1 c (targetOf ⟨(l1, h1), (l2, h2), (l3, h3), (l4, h4), (l5, h5), wo⟩ 0))))])
  ⟨is_k, is_k, is_k, is_k, is_k, is_k, is_k, trivial⟩
  ⟨fun f s W d i j k l a => opv rfl rfl (by simp [go_sem, a.e 6 k1_6, cb br1_0 d 0]) rfl,
  fun f s W d i j k l a => opv rfl rfl (by simp [go_sem, a.e 1 k1_1, cb b1_0 d 0]) rfl,
  fun f s W d i j k l a => opv rfl rfl (by simp [go_sem, a.e 2 k1_2, cb b1_1 d 0, cb b1_1 d 1, cb b1_1 d 2, cb b1_1 d 3, cb b1_1 d 4, cb b1_1 d 5, cb b1_1 d 6, cb b1_1 d 7, cb b1_1 d 8, cb b1_1 d 9, cb b1_1 d 10]) rfl,
  fun f s W d i j k l a => opv rfl rfl (by simp [go_sem, a.e 3 k1_3, cb b1_2 d 0]) rfl,
  fun f s W d i j k l a => opc rfl rfl (by simp [go_sem, a.e 11 (i 2 rfl), a.e 12 (i 3 rfl)]) (target_any l1 h1 l2 h2 l3 h3 l4 h4 l5 h5 wo 0 (by omega) W),
  fun f s W d i j k l a => opc (args := #[.int .i64 p, .int .i64 1, .int .i64 c, .agg #[.int .i64 ((targetOf ⟨(l1, h1), (l2, h2), (l3, h3), (l4, h4), (l5, h5), wo⟩ 0).1), .int .i64 ((targetOf ⟨(l1, h1), (l2, h2), (l3, h3), (l4, h4), (l5, h5), wo⟩ 0).2)]]) rfl rfl (by simp [go_sem, a.e 9 (i 0 rfl), a.e 10 (i 1 rfl), a.e 13 (i 4 rfl)]) (isIn_any p 1 c _ _ W (by omega) (by omega) (by omega) (by omega) hc1 hc2 tb.1 tb.2.1 tb.2.2.1 tb.2.2.2),
  fun f s W d i j k l a => opv rfl rfl (by simp [go_sem, a.e 14 (i 5 rfl)]) rfl, trivial⟩ ?_
 intro f2 s2 W2 hB2 g2 hg2
 have fB2 := hB2.f fB1
 have z2 := hB2.below.size
 have b2_0 := hB2.b b1_0
 have b2_1 := hB2.b b1_1
 have b2_2 := hB2.b b1_2
 have b2_3 := hB2.b b1_3
 have b2_4 := hB2.b b1_4
 have b2_5 := hB2.b br1_0
 refine hK3 _ _ ?_
 have k2_1 := kt hg2 1 k1_1
 have k2_2 := kt hg2 2 k1_2
 have k2_3 := kt hg2 3 k1_3
 have k2_4 := kt hg2 4 k1_4
 have k2_5 := kt hg2 5 k1_5
 have k2_6 := kt hg2 6 k1_6
 have k2_7 := kt hg2 7 k1_7
 have k2_15 := kt hg2 15 (hB2.is 6)
 refine wp_cond_split (t := !(isInOf p 1 c (targetOf ⟨(l1, h1), (l2, h2), (l3, h3), (l4, h4), (l5, h5), wo⟩ 0))) ((fr_eval rfl).trans k2_15) (fun hc4 => ?_) (fun hc4 => ?_)
 ·
  have hc4' := hc4; try simp only [ba] at hc4'
  refine wp_seq_k fun K5 hK5 => ?_
  refine region_dk 1 [(7, 0)] [[]] (rel [is (.bool false)])
   ⟨is_k, trivial⟩
   ⟨fun f s W d i j k l a => opv rfl rfl (by simp [go_sem]) rfl, trivial⟩ ?_
  intro f3 s3 W3 hB3 g3 hg3
  have fB3 := hB3.f fB2
  have z3 := hB3.below.size
  have b3_0 := hB3.b b2_0
  have b3_1 := hB3.b b2_1
  have b3_2 := hB3.b b2_2
  have b3_3 := hB3.b b2_3
  have b3_4 := hB3.b b2_4
  have b3_5 := hB3.b b2_5
  refine hK5 _ _ ?_
  have k3_1 := kt hg3 1 k2_1
  have k3_2 := kt hg3 2 k2_2
  have k3_3 := kt hg3 3 k2_3
  have k3_4 := kt hg3 4 k2_4
  have k3_5 := kt hg3 5 k2_5
  have k3_6 := kt hg3 6 k2_6
  have k3_7 := kt hg3 7 (hB3.is 0)
  refine wp_ret ?_
  refine then_ret ?_
  refine leave_one (N := 21) (v := .bool false) (.inr rfl) Try.results79 rfl k3_7 ?_
  exact ⟨by have h' := hc4; simp at h'; simp [okP, h'], fB3⟩
 ·
  have hc4' := hc4; try simp only [ba] at hc4'
  refine wp_skip ?_
  refine hK2 _ _ ?_
  refine wp_seq_k fun K6 hK6 => ?_
  refine region_dk 2 [(16, 0), (8, 1)] [[], [0]] (rel [is (.func (.func 81) #[] #[.pointer (some ⟨D3, 0, none⟩), .pointer (some ⟨D4, 0, none⟩), .pointer (some ⟨(s1 0), 0, none⟩), .pointer (some ⟨D1, 0, none⟩), .pointer (some ⟨D2, 0, none⟩)]),
   is (.func (.func 81) #[] #[.pointer (some ⟨D3, 0, none⟩), .pointer (some ⟨D4, 0, none⟩), .pointer (some ⟨(s1 0), 0, none⟩), .pointer (some ⟨D1, 0, none⟩), .pointer (some ⟨D2, 0, none⟩)])])
   ⟨is_k, is_k, trivial⟩
   ⟨fun f s W d i j k l a => opv rfl rfl (by simp [go_sem, a.e 3 k2_3, a.e 4 k2_4, a.e 6 k2_6, a.e 1 k2_1, a.e 2 k2_2]) rfl,
  fun f s W d i j k l a => opv rfl rfl (by simp [go_sem, a.e 16 (i 0 rfl)]) rfl, trivial⟩ ?_
  intro f4 s4 W4 hB4 g4 hg4
  have fB4 := hB4.f fB2
  have z4 := hB4.below.size
  have b4_0 := hB4.b b2_0
  have b4_1 := hB4.b b2_1
  have b4_2 := hB4.b b2_2
  have b4_3 := hB4.b b2_3
  have b4_4 := hB4.b b2_4
  have b4_5 := hB4.b b2_5
  refine hK6 _ _ ?_
  have k4_5 := kt hg4 5 k2_5
  have k4_7 := kt hg4 7 k2_7
  have k4_8 := kt hg4 8 (hB4.is 1)
  refine wp_seq_k fun K7 hK7 => ?_
  refine region_dk 5 [(17, 0), (18, 1), (19, 2), (20, 3), (7, 4)] [[], [], [0, 1], [0, 1, 2], [0, 1, 2, 3]] (rel [is (.slice (some ⟨gq, 0, none⟩) (2) (cap)),
   is (.func (.func 81) #[] #[.pointer (some ⟨D3, 0, none⟩), .pointer (some ⟨D4, 0, none⟩), .pointer (some ⟨(s1 0), 0, none⟩), .pointer (some ⟨D1, 0, none⟩), .pointer (some ⟨D2, 0, none⟩)]),
   is (.bool (badF ⟨(l1, h1), (l2, h2), (l3, h3), (l4, h4), (l5, h5), wo⟩ c off p (v0, v1) 0 || badF ⟨(l1, h1), (l2, h2), (l3, h3), (l4, h4), (l5, h5), wo⟩ c off p (v2, v3) 0)),
   is (.bool (!(badF ⟨(l1, h1), (l2, h2), (l3, h3), (l4, h4), (l5, h5), wo⟩ c off p (v0, v1) 0 || badF ⟨(l1, h1), (l2, h2), (l3, h3), (l4, h4), (l5, h5), wo⟩ c off p (v2, v3) 0))),
   is (.bool (!(badF ⟨(l1, h1), (l2, h2), (l3, h3), (l4, h4), (l5, h5), wo⟩ c off p (v0, v1) 0 || badF ⟨(l1, h1), (l2, h2), (l3, h3), (l4, h4), (l5, h5), wo⟩ c off p (v2, v3) 0)))])
   ⟨is_k, is_k, is_k, is_k, is_k, trivial⟩
   ⟨fun f s W d i j k l a => opv rfl rfl (by simp [go_sem, a.e 5 k4_5, cb b4_4 d 0]) rfl,
  fun f s W d i j k l a => opv rfl rfl (by simp [go_sem, a.e 8 k4_8]) rfl,
  fun f s W d i j k l a => by have m := below_trans fB4 d; exact opc (args := #[.slice (some ⟨gq, 0, none⟩) (2) (cap), .func (.func 81) #[] #[.pointer (some ⟨D3, 0, none⟩), .pointer (some ⟨D4, 0, none⟩), .pointer (some ⟨(s1 0), 0, none⟩), .pointer (some ⟨D1, 0, none⟩), .pointer (some ⟨D2, 0, none⟩)]]) rfl rfl (by simp [go_sem, a.e 17 (i 0 rfl), a.e 18 (i 1 rfl)]) (containsFunc_rows2 _ _ _ (badF ⟨(l1, h1), (l2, h2), (l3, h3), (l4, h4), (l5, h5), wo⟩ c off p (v0, v1) 0) _ _ _ (badF ⟨(l1, h1), (l2, h2), (l3, h3), (l4, h4), (l5, h5), wo⟩ c off p (v2, v3) 0) D3 D4 _ D1 D2 gq cap W (Nat.lt_of_lt_of_le hgq m.size) ((m.cell (p := ⟨gq, 0, none⟩) hgq).trans e0) ((m.cell (p := ⟨gq, 1, none⟩) hgq).trans e1) (fun W' hb' => closes3_0 x0 x1 x2 x3 x4 x5 x6 l1 h1 l2 h2 l3 h3 l4 h4 l5 h5 wo hw p c off v0 v1 q0 o0 m0 D3 D4 _ D1 D2 W' (hI0.below (below_trans m hb') (Nat.le_refl _)) hv0 hv0' hv1 hv1' hp1 hp2 hc1 hc2 ho1 ho2 (blk_below (blk_below b4_2 d) hb') (blk_below (blk_below b4_3 d) hb') (blk_below (blk_below b4_5 d) hb') (blk_below (blk_below b4_0 d) hb') (blk_below (blk_below b4_1 d) hb')) (fun W' hb' => closes3_0 x0 x1 x2 x3 x4 x5 x6 l1 h1 l2 h2 l3 h3 l4 h4 l5 h5 wo hw p c off v2 v3 q1 o1 m1 D3 D4 _ D1 D2 W' (hI1.below (below_trans m hb') (Nat.le_refl _)) hv2 hv2' hv3 hv3' hp1 hp2 hc1 hc2 ho1 ho2 (blk_below (blk_below b4_2 d) hb') (blk_below (blk_below b4_3 d) hb') (blk_below (blk_below b4_5 d) hb') (blk_below (blk_below b4_0 d) hb') (blk_below (blk_below b4_1 d) hb'))),
  fun f s W d i j k l a => opv rfl rfl (by simp [go_sem, a.e 19 (i 2 rfl)]) rfl,
  fun f s W d i j k l a => opv rfl rfl (by simp [go_sem, a.e 20 (i 3 rfl)]) rfl, trivial⟩ ?_
  intro f5 s5 W5 hB5 g5 hg5
  have fB5 := hB5.f fB4
  have z5 := hB5.below.size
  have b5_0 := hB5.b b4_0
  have b5_1 := hB5.b b4_1
  have b5_2 := hB5.b b4_2
  have b5_3 := hB5.b b4_3
  have b5_4 := hB5.b b4_4
  have b5_5 := hB5.b b4_5
  refine hK7 _ _ ?_
  have k5_7 := kt hg5 7 (hB5.is 4)
  refine wp_ret ?_
  refine leave_one (N := 21) (v := .bool (!(badF ⟨(l1, h1), (l2, h2), (l3, h3), (l4, h4), (l5, h5), wo⟩ c off p (v0, v1) 0 || badF ⟨(l1, h1), (l2, h2), (l3, h3), (l4, h4), (l5, h5), wo⟩ c off p (v2, v3) 0))) (.inr rfl) Try.results79 rfl k5_7 ?_
  exact ⟨by have h' := hc4; simp at h'; simp [okP, h'], fB5⟩
set_option maxRecDepth 100000 in
set_option maxHeartbeats 400000 in
theorem closesP_1_2 (x0 x1 x2 x3 x4 x5 x6 : Value) (l1 h1 l2 h2 l3 h3 l4 h4 l5 h5 : Int) (wo : Bool) (hw : WishIn ⟨(l1, h1), (l2, h2), (l3, h3), (l4, h4), (l5, h5), wo⟩) (p c off v0 v1 v2 v3 : Int) (q0 o0 m0 q1 o1 m1 gq cap : Nat) (D1 D2 D3 D4 D5 : Nat) (w : World) (hgq : gq < w.heap.size) (e0 : w.cell? ⟨gq, 0, none⟩ = some (.slice (some ⟨q0, o0, none⟩) 2 m0)) (hI0 : Ii w (some ⟨q0, o0, none⟩) 2 m0 [v0, v1]) (hv0 : 0 ≤ v0) (hv0' : v0 ≤ 3000) (hv1 : 0 ≤ v1) (hv1' : v1 ≤ 3000) (e1 : w.cell? ⟨gq, 1, none⟩ = some (.slice (some ⟨q1, o1, none⟩) 2 m1)) (hI1 : Ii w (some ⟨q1, o1, none⟩) 2 m1 [v2, v3]) (hv2 : 0 ≤ v2) (hv2' : v2 ≤ 3000) (hv3 : 0 ≤ v3) (hv3' : v3 ≤ 3000) (hp1 : 0 ≤ p) (hp2 : p ≤ 3000) (hc1 : 0 ≤ c) (hc2 : c ≤ 100000) (ho1 : 0 ≤ off) (ho2 : off ≤ 5) (u1 : w.heap[D1]? = some (.cells #[.int .i64 c] 3 (0, 0))) (u2 : w.heap[D2]? = some (.cells #[.int .i64 l1, .int .i64 h1, .int .i64 l2, .int .i64 h2, .int .i64 l3, .int .i64 h3, .int .i64 l4, .int .i64 h4, .int .i64 l5, .int .i64 h5, .bool wo] 69 (0, 0))) (u3 : w.heap[D3]? = some (.cells #[.int .i64 1] 3 (0, 0))) (u4 : w.heap[D4]? = some (.cells #[x0, x1, x2, x3, x4, x5, x6, .int .i64 off] 104 (0, 0))) (u5 : w.heap[D5]? = some (.cells #[.slice (some ⟨gq, 0, none⟩) (2) (cap)] 107 (0, 0))) :
  Calls Try.prog 79 #[.int .i64 p, .pointer (some ⟨D1, 0, none⟩), .pointer (some ⟨D2, 0, none⟩), .pointer (some ⟨D3, 0, none⟩), .pointer (some ⟨D4, 0, none⟩), .pointer (some ⟨D5, 0, none⟩)] w (fun e w' => e = .returned (.bool (okP ⟨(l1, h1), (l2, h2), (l3, h3), (l4, h4), (l5, h5), wo⟩ c off p [(v0, v1), (v2, v3)] 1)) ∧ Below w.heap.size w w') := by
 have tb : -10000 ≤ (targetOf ⟨(l1, h1), (l2, h2), (l3, h3), (l4, h4), (l5, h5), wo⟩ 1).1 ∧ (targetOf ⟨(l1, h1), (l2, h2), (l3, h3), (l4, h4), (l5, h5), wo⟩ 1).1 ≤ 10000 ∧ -10000 ≤ (targetOf ⟨(l1, h1), (l2, h2), (l3, h3), (l4, h4), (l5, h5), wo⟩ 1).2 ∧ (targetOf ⟨(l1, h1), (l2, h2), (l3, h3), (l4, h4), (l5, h5), wo⟩ 1).2 ≤ 10000 := by have h := targetOf_in hw 1; omega
 refine calls_fr Try.func79 Try.ntmps79 rfl rfl fun g hg => ?_
 have k0 : g 0 = .int .i64 p := hg 0
 have k1 : g 1 = .pointer (some ⟨D1, 0, none⟩) := hg 1
 have k2 : g 2 = .pointer (some ⟨D2, 0, none⟩) := hg 2
 have k3 : g 3 = .pointer (some ⟨D3, 0, none⟩) := hg 3
 have k4 : g 4 = .pointer (some ⟨D4, 0, none⟩) := hg 4
 have k5 : g 5 = .pointer (some ⟨D5, 0, none⟩) := hg 5
 clear hg
 have fB0 : Below w.heap.size w w := Below.refl _ _
 have lt_D1 := lt_of_blk u1
 have lt_D2 := lt_of_blk u2
 have lt_D3 := lt_of_blk u3
 have lt_D4 := lt_of_blk u4
 have lt_D5 := lt_of_blk u5
 refine wp_seq_k fun K1 hK1 => ?_
 refine region_dk 2 [(6, 0), (7, 1)] [[], []] (rel [bx 0 #[.int .i64 p] 3,
   is (.bool false)])
  ⟨bx_k, is_k, trivial⟩
  ⟨fun f s W d i j k l a => opb rfl rfl (by simp [go_sem, a.e 0 k0]),
  fun f s W d i j k l a => opv rfl rfl (by simp [go_sem]) rfl, trivial⟩ ?_
 intro f1 s1 W1 hB1 g1 hg1
 have fB1 := hB1.f fB0
 have z1 := hB1.below.size
 have b1_0 := hB1.b u1
 have b1_1 := hB1.b u2
 have b1_2 := hB1.b u3
 have b1_3 := hB1.b u4
 have b1_4 := hB1.b u5
 obtain ⟨r1_0, br1_0⟩ := hB1.is 0
 have lr1_0 := hB1.lr 0 br1_0
 refine hK1 _ _ ?_
 have k1_1 := kt hg1 1 k1
 have k1_2 := kt hg1 2 k2
 have k1_3 := kt hg1 3 k3
 have k1_4 := kt hg1 4 k4
 have k1_5 := kt hg1 5 k5
 have k1_6 := kt hg1 6 r1_0
 have k1_7 := kt hg1 7 (hB1.is 1)
 refine wp_seq_k fun K2 hK2 => ?_
 refine wp_seq_k fun K3 hK3 => ?_
 refine region_dk 7 [(9, 0), (10, 1), (11, 2), (12, 3), (13, 4), (14, 5), (15, 6)] [[], [], [], [], [2, 3], [0, 1, 2, 3, 4], [0, 1, 2, 3, 4, 5]] (rel [is (.int .i64 p),
   is (.int .i64 c),
   is (.agg #[.int .i64 l1, .int .i64 h1, .int .i64 l2, .int .i64 h2, .int .i64 l3, .int .i64 h3, .int .i64 l4, .int .i64 h4, .int .i64 l5, .int .i64 h5, .bool wo]),
   is (.int .i64 1),
   is (.agg #[.int .i64 ((targetOf ⟨(l1, h1), (l2, h2), (l3, h3), (l4, h4), (l5, h5), wo⟩ 1).1), .int .i64 ((targetOf ⟨(l1, h1), (l2, h2), (l3, h3), (l4, h4), (l5, h5), wo⟩ 1).2)]),
   is (.bool (isInOf p 1 c (targetOf ⟨(l1, h1), (l2, h2), (l3, h3), (l4, h4), (l5, h5), wo⟩ 1))),
   is (.bool (!(isInOf p 1 c (targetOf ⟨(l1, h1), (l2, h2), (l3, h3), (l4, h4), (l5, h5), wo⟩ 1))))])
  ⟨is_k, is_k, is_k, is_k, is_k, is_k, is_k, trivial⟩
  ⟨fun f s W d i j k l a => opv rfl rfl (by simp [go_sem, a.e 6 k1_6, cb br1_0 d 0]) rfl,
  fun f s W d i j k l a => opv rfl rfl (by simp [go_sem, a.e 1 k1_1, cb b1_0 d 0]) rfl,
  fun f s W d i j k l a => opv rfl rfl (by simp [go_sem, a.e 2 k1_2, cb b1_1 d 0, cb b1_1 d 1, cb b1_1 d 2, cb b1_1 d 3, cb b1_1 d 4, cb b1_1 d 5, cb b1_1 d 6, cb b1_1 d 7, cb b1_1 d 8, cb b1_1 d 9, cb b1_1 d 10]) rfl,
  fun f s W d i j k l a => opv rfl rfl (by simp [go_sem, a.e 3 k1_3, cb b1_2 d 0]) rfl,
  fun f s W d i j k l a => opc rfl rfl (by simp [go_sem, a.e 11 (i 2 rfl), a.e 12 (i 3 rfl)]) (target_any l1 h1 l2 h2 l3 h3 l4 h4 l5 h5 wo 1 (by omega) W),
  fun f s W d i j k l a => opc (args := #[.int .i64 p, .int .i64 1, .int .i64 c, .agg #[.int .i64 ((targetOf ⟨(l1, h1), (l2, h2), (l3, h3), (l4, h4), (l5, h5), wo⟩ 1).1), .int .i64 ((targetOf ⟨(l1, h1), (l2, h2), (l3, h3), (l4, h4), (l5, h5), wo⟩ 1).2)]]) rfl rfl (by simp [go_sem, a.e 9 (i 0 rfl), a.e 10 (i 1 rfl), a.e 13 (i 4 rfl)]) (isIn_any p 1 c _ _ W (by omega) (by omega) (by omega) (by omega) hc1 hc2 tb.1 tb.2.1 tb.2.2.1 tb.2.2.2),
  fun f s W d i j k l a => opv rfl rfl (by simp [go_sem, a.e 14 (i 5 rfl)]) rfl, trivial⟩ ?_
 intro f2 s2 W2 hB2 g2 hg2
 have fB2 := hB2.f fB1
 have z2 := hB2.below.size
 have b2_0 := hB2.b b1_0
 have b2_1 := hB2.b b1_1
 have b2_2 := hB2.b b1_2
 have b2_3 := hB2.b b1_3
 have b2_4 := hB2.b b1_4
 have b2_5 := hB2.b br1_0
 refine hK3 _ _ ?_
 have k2_1 := kt hg2 1 k1_1
 have k2_2 := kt hg2 2 k1_2
 have k2_3 := kt hg2 3 k1_3
 have k2_4 := kt hg2 4 k1_4
 have k2_5 := kt hg2 5 k1_5
 have k2_6 := kt hg2 6 k1_6
 have k2_7 := kt hg2 7 k1_7
 have k2_15 := kt hg2 15 (hB2.is 6)
 refine wp_cond_split (t := !(isInOf p 1 c (targetOf ⟨(l1, h1), (l2, h2), (l3, h3), (l4, h4), (l5, h5), wo⟩ 1))) ((fr_eval rfl).trans k2_15) (fun hc4 => ?_) (fun hc4 => ?_)
 ·
  have hc4' := hc4; try simp only [ba] at hc4'
  refine wp_seq_k fun K5 hK5 => ?_
  refine region_dk 1 [(7, 0)] [[]] (rel [is (.bool false)])
   ⟨is_k, trivial⟩
   ⟨fun f s W d i j k l a => opv rfl rfl (by simp [go_sem]) rfl, trivial⟩ ?_
  intro f3 s3 W3 hB3 g3 hg3
  have fB3 := hB3.f fB2
  have z3 := hB3.below.size
  have b3_0 := hB3.b b2_0
  have b3_1 := hB3.b b2_1
  have b3_2 := hB3.b b2_2
  have b3_3 := hB3.b b2_3
  have b3_4 := hB3.b b2_4
  have b3_5 := hB3.b b2_5
  refine hK5 _ _ ?_
  have k3_1 := kt hg3 1 k2_1
  have k3_2 := kt hg3 2 k2_2
  have k3_3 := kt hg3 3 k2_3
  have k3_4 := kt hg3 4 k2_4
  have k3_5 := kt hg3 5 k2_5
  have k3_6 := kt hg3 6 k2_6
  have k3_7 := kt hg3 7 (hB3.is 0)
  refine wp_ret ?_
  refine then_ret ?_
  refine leave_one (N := 21) (v := .bool false) (.inr rfl) Try.results79 rfl k3_7 ?_
  exact ⟨by have h' := hc4; simp at h'; simp [okP, h'], fB3⟩
 ·
  have hc4' := hc4; try simp only [ba] at hc4'
  refine wp_skip ?_
  refine hK2 _ _ ?_
  refine wp_seq_k fun K6 hK6 => ?_
  refine region_dk 2 [(16, 0), (8, 1)] [[], [0]] (rel [is (.func (.func 81) #[] #[.pointer (some ⟨D3, 0, none⟩), .pointer (some ⟨D4, 0, none⟩), .pointer (some ⟨(s1 0), 0, none⟩), .pointer (some ⟨D1, 0, none⟩), .pointer (some ⟨D2, 0, none⟩)]),
   is (.func (.func 81) #[] #[.pointer (some ⟨D3, 0, none⟩), .pointer (some ⟨D4, 0, none⟩), .pointer (some ⟨(s1 0), 0, none⟩), .pointer (some ⟨D1, 0, none⟩), .pointer (some ⟨D2, 0, none⟩)])])
   ⟨is_k, is_k, trivial⟩
   ⟨fun f s W d i j k l a => opv rfl rfl (by simp [go_sem, a.e 3 k2_3, a.e 4 k2_4, a.e 6 k2_6, a.e 1 k2_1, a.e 2 k2_2]) rfl,
  fun f s W d i j k l a => opv rfl rfl (by simp [go_sem, a.e 16 (i 0 rfl)]) rfl, trivial⟩ ?_
  intro f4 s4 W4 hB4 g4 hg4
  have fB4 := hB4.f fB2
  have z4 := hB4.below.size
  have b4_0 := hB4.b b2_0
  have b4_1 := hB4.b b2_1
  have b4_2 := hB4.b b2_2
  have b4_3 := hB4.b b2_3
  have b4_4 := hB4.b b2_4
  have b4_5 := hB4.b b2_5
  refine hK6 _ _ ?_
  have k4_5 := kt hg4 5 k2_5
  have k4_7 := kt hg4 7 k2_7
  have k4_8 := kt hg4 8 (hB4.is 1)
  refine wp_seq_k fun K7 hK7 => ?_
  refine region_dk 5 [(17, 0), (18, 1), (19, 2), (20, 3), (7, 4)] [[], [], [0, 1], [0, 1, 2], [0, 1, 2, 3]] (rel [is (.slice (some ⟨gq, 0, none⟩) (2) (cap)),
   is (.func (.func 81) #[] #[.pointer (some ⟨D3, 0, none⟩), .pointer (some ⟨D4, 0, none⟩), .pointer (some ⟨(s1 0), 0, none⟩), .pointer (some ⟨D1, 0, none⟩), .pointer (some ⟨D2, 0, none⟩)]),
   is (.bool (badF ⟨(l1, h1), (l2, h2), (l3, h3), (l4, h4), (l5, h5), wo⟩ c off p (v0, v1) 1 || badF ⟨(l1, h1), (l2, h2), (l3, h3), (l4, h4), (l5, h5), wo⟩ c off p (v2, v3) 1)),
   is (.bool (!(badF ⟨(l1, h1), (l2, h2), (l3, h3), (l4, h4), (l5, h5), wo⟩ c off p (v0, v1) 1 || badF ⟨(l1, h1), (l2, h2), (l3, h3), (l4, h4), (l5, h5), wo⟩ c off p (v2, v3) 1))),
   is (.bool (!(badF ⟨(l1, h1), (l2, h2), (l3, h3), (l4, h4), (l5, h5), wo⟩ c off p (v0, v1) 1 || badF ⟨(l1, h1), (l2, h2), (l3, h3), (l4, h4), (l5, h5), wo⟩ c off p (v2, v3) 1)))])
   ⟨is_k, is_k, is_k, is_k, is_k, trivial⟩
   ⟨fun f s W d i j k l a => opv rfl rfl (by simp [go_sem, a.e 5 k4_5, cb b4_4 d 0]) rfl,
  fun f s W d i j k l a => opv rfl rfl (by simp [go_sem, a.e 8 k4_8]) rfl,
  fun f s W d i j k l a => by have m := below_trans fB4 d; exact opc (args := #[.slice (some ⟨gq, 0, none⟩) (2) (cap), .func (.func 81) #[] #[.pointer (some ⟨D3, 0, none⟩), .pointer (some ⟨D4, 0, none⟩), .pointer (some ⟨(s1 0), 0, none⟩), .pointer (some ⟨D1, 0, none⟩), .pointer (some ⟨D2, 0, none⟩)]]) rfl rfl (by simp [go_sem, a.e 17 (i 0 rfl), a.e 18 (i 1 rfl)]) (containsFunc_rows2 _ _ _ (badF ⟨(l1, h1), (l2, h2), (l3, h3), (l4, h4), (l5, h5), wo⟩ c off p (v0, v1) 1) _ _ _ (badF ⟨(l1, h1), (l2, h2), (l3, h3), (l4, h4), (l5, h5), wo⟩ c off p (v2, v3) 1) D3 D4 _ D1 D2 gq cap W (Nat.lt_of_lt_of_le hgq m.size) ((m.cell (p := ⟨gq, 0, none⟩) hgq).trans e0) ((m.cell (p := ⟨gq, 1, none⟩) hgq).trans e1) (fun W' hb' => closes3_1 x0 x1 x2 x3 x4 x5 x6 l1 h1 l2 h2 l3 h3 l4 h4 l5 h5 wo hw p c off v0 v1 q0 o0 m0 D3 D4 _ D1 D2 W' (hI0.below (below_trans m hb') (Nat.le_refl _)) hv0 hv0' hv1 hv1' hp1 hp2 hc1 hc2 ho1 ho2 (blk_below (blk_below b4_2 d) hb') (blk_below (blk_below b4_3 d) hb') (blk_below (blk_below b4_5 d) hb') (blk_below (blk_below b4_0 d) hb') (blk_below (blk_below b4_1 d) hb')) (fun W' hb' => closes3_1 x0 x1 x2 x3 x4 x5 x6 l1 h1 l2 h2 l3 h3 l4 h4 l5 h5 wo hw p c off v2 v3 q1 o1 m1 D3 D4 _ D1 D2 W' (hI1.below (below_trans m hb') (Nat.le_refl _)) hv2 hv2' hv3 hv3' hp1 hp2 hc1 hc2 ho1 ho2 (blk_below (blk_below b4_2 d) hb') (blk_below (blk_below b4_3 d) hb') (blk_below (blk_below b4_5 d) hb') (blk_below (blk_below b4_0 d) hb') (blk_below (blk_below b4_1 d) hb'))),
  fun f s W d i j k l a => opv rfl rfl (by simp [go_sem, a.e 19 (i 2 rfl)]) rfl,
  fun f s W d i j k l a => opv rfl rfl (by simp [go_sem, a.e 20 (i 3 rfl)]) rfl, trivial⟩ ?_
  intro f5 s5 W5 hB5 g5 hg5
  have fB5 := hB5.f fB4
  have z5 := hB5.below.size
  have b5_0 := hB5.b b4_0
  have b5_1 := hB5.b b4_1
  have b5_2 := hB5.b b4_2
  have b5_3 := hB5.b b4_3
  have b5_4 := hB5.b b4_4
  have b5_5 := hB5.b b4_5
  refine hK7 _ _ ?_
  have k5_7 := kt hg5 7 (hB5.is 4)
  refine wp_ret ?_
  refine leave_one (N := 21) (v := .bool (!(badF ⟨(l1, h1), (l2, h2), (l3, h3), (l4, h4), (l5, h5), wo⟩ c off p (v0, v1) 1 || badF ⟨(l1, h1), (l2, h2), (l3, h3), (l4, h4), (l5, h5), wo⟩ c off p (v2, v3) 1))) (.inr rfl) Try.results79 rfl k5_7 ?_
  exact ⟨by have h' := hc4; simp at h'; simp [okP, h'], fB5⟩
set_option maxRecDepth 100000 in
set_option maxHeartbeats 400000 in
theorem closesP_2_2 (x0 x1 x2 x3 x4 x5 x6 : Value) (l1 h1 l2 h2 l3 h3 l4 h4 l5 h5 : Int) (wo : Bool) (hw : WishIn ⟨(l1, h1), (l2, h2), (l3, h3), (l4, h4), (l5, h5), wo⟩) (p c off v0 v1 v2 v3 : Int) (q0 o0 m0 q1 o1 m1 gq cap : Nat) (D1 D2 D3 D4 D5 : Nat) (w : World) (hgq : gq < w.heap.size) (e0 : w.cell? ⟨gq, 0, none⟩ = some (.slice (some ⟨q0, o0, none⟩) 2 m0)) (hI0 : Ii w (some ⟨q0, o0, none⟩) 2 m0 [v0, v1]) (hv0 : 0 ≤ v0) (hv0' : v0 ≤ 3000) (hv1 : 0 ≤ v1) (hv1' : v1 ≤ 3000) (e1 : w.cell? ⟨gq, 1, none⟩ = some (.slice (some ⟨q1, o1, none⟩) 2 m1)) (hI1 : Ii w (some ⟨q1, o1, none⟩) 2 m1 [v2, v3]) (hv2 : 0 ≤ v2) (hv2' : v2 ≤ 3000) (hv3 : 0 ≤ v3) (hv3' : v3 ≤ 3000) (hp1 : 0 ≤ p) (hp2 : p ≤ 3000) (hc1 : 0 ≤ c) (hc2 : c ≤ 100000) (ho1 : 0 ≤ off) (ho2 : off ≤ 5) (u1 : w.heap[D1]? = some (.cells #[.int .i64 c] 3 (0, 0))) (u2 : w.heap[D2]? = some (.cells #[.int .i64 l1, .int .i64 h1, .int .i64 l2, .int .i64 h2, .int .i64 l3, .int .i64 h3, .int .i64 l4, .int .i64 h4, .int .i64 l5, .int .i64 h5, .bool wo] 69 (0, 0))) (u3 : w.heap[D3]? = some (.cells #[.int .i64 2] 3 (0, 0))) (u4 : w.heap[D4]? = some (.cells #[x0, x1, x2, x3, x4, x5, x6, .int .i64 off] 104 (0, 0))) (u5 : w.heap[D5]? = some (.cells #[.slice (some ⟨gq, 0, none⟩) (2) (cap)] 107 (0, 0))) :
  Calls Try.prog 79 #[.int .i64 p, .pointer (some ⟨D1, 0, none⟩), .pointer (some ⟨D2, 0, none⟩), .pointer (some ⟨D3, 0, none⟩), .pointer (some ⟨D4, 0, none⟩), .pointer (some ⟨D5, 0, none⟩)] w (fun e w' => e = .returned (.bool (okP ⟨(l1, h1), (l2, h2), (l3, h3), (l4, h4), (l5, h5), wo⟩ c off p [(v0, v1), (v2, v3)] 2)) ∧ Below w.heap.size w w') := by
 have tb : -10000 ≤ (targetOf ⟨(l1, h1), (l2, h2), (l3, h3), (l4, h4), (l5, h5), wo⟩ 2).1 ∧ (targetOf ⟨(l1, h1), (l2, h2), (l3, h3), (l4, h4), (l5, h5), wo⟩ 2).1 ≤ 10000 ∧ -10000 ≤ (targetOf ⟨(l1, h1), (l2, h2), (l3, h3), (l4, h4), (l5, h5), wo⟩ 2).2 ∧ (targetOf ⟨(l1, h1), (l2, h2), (l3, h3), (l4, h4), (l5, h5), wo⟩ 2).2 ≤ 10000 := by have h := targetOf_in hw 2; omega
 refine calls_fr Try.func79 Try.ntmps79 rfl rfl fun g hg => ?_
 have k0 : g 0 = .int .i64 p := hg 0
 have k1 : g 1 = .pointer (some ⟨D1, 0, none⟩) := hg 1
 have k2 : g 2 = .pointer (some ⟨D2, 0, none⟩) := hg 2
 have k3 : g 3 = .pointer (some ⟨D3, 0, none⟩) := hg 3
 have k4 : g 4 = .pointer (some ⟨D4, 0, none⟩) := hg 4
 have k5 : g 5 = .pointer (some ⟨D5, 0, none⟩) := hg 5
 clear hg
 have fB0 : Below w.heap.size w w := Below.refl _ _
 have lt_D1 := lt_of_blk u1
 have lt_D2 := lt_of_blk u2
 have lt_D3 := lt_of_blk u3
 have lt_D4 := lt_of_blk u4
 have lt_D5 := lt_of_blk u5
 refine wp_seq_k fun K1 hK1 => ?_
 refine region_dk 2 [(6, 0), (7, 1)] [[], []] (rel [bx 0 #[.int .i64 p] 3,
   is (.bool false)])
  ⟨bx_k, is_k, trivial⟩
  ⟨fun f s W d i j k l a => opb rfl rfl (by simp [go_sem, a.e 0 k0]),
  fun f s W d i j k l a => opv rfl rfl (by simp [go_sem]) rfl, trivial⟩ ?_
 intro f1 s1 W1 hB1 g1 hg1
 have fB1 := hB1.f fB0
 have z1 := hB1.below.size
 have b1_0 := hB1.b u1
 have b1_1 := hB1.b u2
 have b1_2 := hB1.b u3
 have b1_3 := hB1.b u4
 have b1_4 := hB1.b u5
 obtain ⟨r1_0, br1_0⟩ := hB1.is 0
 have lr1_0 := hB1.lr 0 br1_0
 refine hK1 _ _ ?_
 have k1_1 := kt hg1 1 k1
 have k1_2 := kt hg1 2 k2
 have k1_3 := kt hg1 3 k3
 have k1_4 := kt hg1 4 k4
 have k1_5 := kt hg1 5 k5
 have k1_6 := kt hg1 6 r1_0
 have k1_7 := kt hg1 7 (hB1.is 1)
 refine wp_seq_k fun K2 hK2 => ?_
 refine wp_seq_k fun K3 hK3 => ?_
 refine region_dk 7 [(9, 0), (10, 1), (11, 2), (12, 3), (13, 4), (14, 5), (15, 6)] [[], [], [], [], [2, 3], [0, 1, 2, 3, 4], [0, 1, 2, 3, 4, 5]] (rel [is (.int .i64 p),
   is (.int .i64 c),
   is (.agg #[.int .i64 l1, .int .i64 h1, .int .i64 l2, .int .i64 h2, .int .i64 l3, .int .i64 h3, .int .i64 l4, .int .i64 h4, .int .i64 l5, .int .i64 h5, .bool wo]),
   is (.int .i64 2),
   is (.agg #[.int .i64 ((targetOf ⟨(l1, h1), (l2, h2), (l3, h3), (l4, h4), (l5, h5), wo⟩ 2).1), .int .i64 ((targetOf ⟨(l1, h1), (l2, h2), (l3, h3), (l4, h4), (l5, h5), wo⟩ 2).2)]),
   is (.bool (isInOf p 1 c (targetOf ⟨(l1, h1), (l2, h2), (l3, h3), (l4, h4), (l5, h5), wo⟩ 2))),
   is (.bool (!(isInOf p 1 c (targetOf ⟨(l1, h1), (l2, h2), (l3, h3), (l4, h4), (l5, h5), wo⟩ 2))))])
  ⟨is_k, is_k, is_k, is_k, is_k, is_k, is_k, trivial⟩
  ⟨fun f s W d i j k l a => opv rfl rfl (by simp [go_sem, a.e 6 k1_6, cb br1_0 d 0]) rfl,
  fun f s W d i j k l a => opv rfl rfl (by simp [go_sem, a.e 1 k1_1, cb b1_0 d 0]) rfl,
  fun f s W d i j k l a => opv rfl rfl (by simp [go_sem, a.e 2 k1_2, cb b1_1 d 0, cb b1_1 d 1, cb b1_1 d 2, cb b1_1 d 3, cb b1_1 d 4, cb b1_1 d 5, cb b1_1 d 6, cb b1_1 d 7, cb b1_1 d 8, cb b1_1 d 9, cb b1_1 d 10]) rfl,
  fun f s W d i j k l a => opv rfl rfl (by simp [go_sem, a.e 3 k1_3, cb b1_2 d 0]) rfl,
  fun f s W d i j k l a => opc rfl rfl (by simp [go_sem, a.e 11 (i 2 rfl), a.e 12 (i 3 rfl)]) (target_any l1 h1 l2 h2 l3 h3 l4 h4 l5 h5 wo 2 (by omega) W),
  fun f s W d i j k l a => opc (args := #[.int .i64 p, .int .i64 1, .int .i64 c, .agg #[.int .i64 ((targetOf ⟨(l1, h1), (l2, h2), (l3, h3), (l4, h4), (l5, h5), wo⟩ 2).1), .int .i64 ((targetOf ⟨(l1, h1), (l2, h2), (l3, h3), (l4, h4), (l5, h5), wo⟩ 2).2)]]) rfl rfl (by simp [go_sem, a.e 9 (i 0 rfl), a.e 10 (i 1 rfl), a.e 13 (i 4 rfl)]) (isIn_any p 1 c _ _ W (by omega) (by omega) (by omega) (by omega) hc1 hc2 tb.1 tb.2.1 tb.2.2.1 tb.2.2.2),
  fun f s W d i j k l a => opv rfl rfl (by simp [go_sem, a.e 14 (i 5 rfl)]) rfl, trivial⟩ ?_
 intro f2 s2 W2 hB2 g2 hg2
 have fB2 := hB2.f fB1
 have z2 := hB2.below.size
 have b2_0 := hB2.b b1_0
 have b2_1 := hB2.b b1_1
 have b2_2 := hB2.b b1_2
 have b2_3 := hB2.b b1_3
 have b2_4 := hB2.b b1_4
 have b2_5 := hB2.b br1_0
 refine hK3 _ _ ?_
 have k2_1 := kt hg2 1 k1_1
 have k2_2 := kt hg2 2 k1_2
 have k2_3 := kt hg2 3 k1_3
 have k2_4 := kt hg2 4 k1_4
 have k2_5 := kt hg2 5 k1_5
 have k2_6 := kt hg2 6 k1_6
 have k2_7 := kt hg2 7 k1_7
 have k2_15 := kt hg2 15 (hB2.is 6)
 refine wp_cond_split (t := !(isInOf p 1 c (targetOf ⟨(l1, h1), (l2, h2), (l3, h3), (l4, h4), (l5, h5), wo⟩ 2))) ((fr_eval rfl).trans k2_15) (fun hc4 => ?_) (fun hc4 => ?_)
 ·
  have hc4' := hc4; try simp only [ba] at hc4'
  refine wp_seq_k fun K5 hK5 => ?_
  refine region_dk 1 [(7, 0)] [[]] (rel [is (.bool false)])
   ⟨is_k, trivial⟩
   ⟨fun f s W d i j k l a => opv rfl rfl (by simp [go_sem]) rfl, trivial⟩ ?_
  intro f3 s3 W3 hB3 g3 hg3
  have fB3 := hB3.f fB2
  have z3 := hB3.below.size
  have b3_0 := hB3.b b2_0
  have b3_1 := hB3.b b2_1
  have b3_2 := hB3.b b2_2
  have b3_3 := hB3.b b2_3
  have b3_4 := hB3.b b2_4
  have b3_5 := hB3.b b2_5
  refine hK5 _ _ ?_
  have k3_1 := kt hg3 1 k2_1
  have k3_2 := kt hg3 2 k2_2
  have k3_3 := kt hg3 3 k2_3
  have k3_4 := kt hg3 4 k2_4
  have k3_5 := kt hg3 5 k2_5
  have k3_6 := kt hg3 6 k2_6
  have k3_7 := kt hg3 7 (hB3.is 0)
  refine wp_ret ?_
  refine then_ret ?_
  refine leave_one (N := 21) (v := .bool false) (.inr rfl) Try.results79 rfl k3_7 ?_
  exact ⟨by have h' := hc4; simp at h'; simp [okP, h'], fB3⟩
 ·
  have hc4' := hc4; try simp only [ba] at hc4'
  refine wp_skip ?_
  refine hK2 _ _ ?_
  refine wp_seq_k fun K6 hK6 => ?_
  refine region_dk 2 [(16, 0), (8, 1)] [[], [0]] (rel [is (.func (.func 81) #[] #[.pointer (some ⟨D3, 0, none⟩), .pointer (some ⟨D4, 0, none⟩), .pointer (some ⟨(s1 0), 0, none⟩), .pointer (some ⟨D1, 0, none⟩), .pointer (some ⟨D2, 0, none⟩)]),
   is (.func (.func 81) #[] #[.pointer (some ⟨D3, 0, none⟩), .pointer (some ⟨D4, 0, none⟩), .pointer (some ⟨(s1 0), 0, none⟩), .pointer (some ⟨D1, 0, none⟩), .pointer (some ⟨D2, 0, none⟩)])])
   ⟨is_k, is_k, trivial⟩
   ⟨fun f s W d i j k l a => opv rfl rfl (by simp [go_sem, a.e 3 k2_3, a.e 4 k2_4, a.e 6 k2_6, a.e 1 k2_1, a.e 2 k2_2]) rfl,
  fun f s W d i j k l a => opv rfl rfl (by simp [go_sem, a.e 16 (i 0 rfl)]) rfl, trivial⟩ ?_
  intro f4 s4 W4 hB4 g4 hg4
  have fB4 := hB4.f fB2
  have z4 := hB4.below.size
  have b4_0 := hB4.b b2_0
  have b4_1 := hB4.b b2_1
  have b4_2 := hB4.b b2_2
  have b4_3 := hB4.b b2_3
  have b4_4 := hB4.b b2_4
  have b4_5 := hB4.b b2_5
  refine hK6 _ _ ?_
  have k4_5 := kt hg4 5 k2_5
  have k4_7 := kt hg4 7 k2_7
  have k4_8 := kt hg4 8 (hB4.is 1)
  refine wp_seq_k fun K7 hK7 => ?_
  refine region_dk 5 [(17, 0), (18, 1), (19, 2), (20, 3), (7, 4)] [[], [], [0, 1], [0, 1, 2], [0, 1, 2, 3]] (rel [is (.slice (some ⟨gq, 0, none⟩) (2) (cap)),
   is (.func (.func 81) #[] #[.pointer (some ⟨D3, 0, none⟩), .pointer (some ⟨D4, 0, none⟩), .pointer (some ⟨(s1 0), 0, none⟩), .pointer (some ⟨D1, 0, none⟩), .pointer (some ⟨D2, 0, none⟩)]),
   is (.bool (badF ⟨(l1, h1), (l2, h2), (l3, h3), (l4, h4), (l5, h5), wo⟩ c off p (v0, v1) 2 || badF ⟨(l1, h1), (l2, h2), (l3, h3), (l4, h4), (l5, h5), wo⟩ c off p (v2, v3) 2)),
   is (.bool (!(badF ⟨(l1, h1), (l2, h2), (l3, h3), (l4, h4), (l5, h5), wo⟩ c off p (v0, v1) 2 || badF ⟨(l1, h1), (l2, h2), (l3, h3), (l4, h4), (l5, h5), wo⟩ c off p (v2, v3) 2))),
   is (.bool (!(badF ⟨(l1, h1), (l2, h2), (l3, h3), (l4, h4), (l5, h5), wo⟩ c off p (v0, v1) 2 || badF ⟨(l1, h1), (l2, h2), (l3, h3), (l4, h4), (l5, h5), wo⟩ c off p (v2, v3) 2)))])
   ⟨is_k, is_k, is_k, is_k, is_k, trivial⟩
   ⟨fun f s W d i j k l a => opv rfl rfl (by simp [go_sem, a.e 5 k4_5, cb b4_4 d 0]) rfl,
  fun f s W d i j k l a => opv rfl rfl (by simp [go_sem, a.e 8 k4_8]) rfl,
  fun f s W d i j k l a => by have m := below_trans fB4 d; exact opc (args := #[.slice (some ⟨gq, 0, none⟩) (2) (cap), .func (.func 81) #[] #[.pointer (some ⟨D3, 0, none⟩), .pointer (some ⟨D4, 0, none⟩), .pointer (some ⟨(s1 0), 0, none⟩), .pointer (some ⟨D1, 0, none⟩), .pointer (some ⟨D2, 0, none⟩)]]) rfl rfl (by simp [go_sem, a.e 17 (i 0 rfl), a.e 18 (i 1 rfl)]) (containsFunc_rows2 _ _ _ (badF ⟨(l1, h1), (l2, h2), (l3, h3), (l4, h4), (l5, h5), wo⟩ c off p (v0, v1) 2) _ _ _ (badF ⟨(l1, h1), (l2, h2), (l3, h3), (l4, h4), (l5, h5), wo⟩ c off p (v2, v3) 2) D3 D4 _ D1 D2 gq cap W (Nat.lt_of_lt_of_le hgq m.size) ((m.cell (p := ⟨gq, 0, none⟩) hgq).trans e0) ((m.cell (p := ⟨gq, 1, none⟩) hgq).trans e1) (fun W' hb' => closes3_2 x0 x1 x2 x3 x4 x5 x6 l1 h1 l2 h2 l3 h3 l4 h4 l5 h5 wo hw p c off v0 v1 q0 o0 m0 D3 D4 _ D1 D2 W' (hI0.below (below_trans m hb') (Nat.le_refl _)) hv0 hv0' hv1 hv1' hp1 hp2 hc1 hc2 ho1 ho2 (blk_below (blk_below b4_2 d) hb') (blk_below (blk_below b4_3 d) hb') (blk_below (blk_below b4_5 d) hb') (blk_below (blk_below b4_0 d) hb') (blk_below (blk_below b4_1 d) hb')) (fun W' hb' => closes3_2 x0 x1 x2 x3 x4 x5 x6 l1 h1 l2 h2 l3 h3 l4 h4 l5 h5 wo hw p c off v2 v3 q1 o1 m1 D3 D4 _ D1 D2 W' (hI1.below (below_trans m hb') (Nat.le_refl _)) hv2 hv2' hv3 hv3' hp1 hp2 hc1 hc2 ho1 ho2 (blk_below (blk_below b4_2 d) hb') (blk_below (blk_below b4_3 d) hb') (blk_below (blk_below b4_5 d) hb') (blk_below (blk_below b4_0 d) hb') (blk_below (blk_below b4_1 d) hb'))),
  fun f s W d i j k l a => opv rfl rfl (by simp [go_sem, a.e 19 (i 2 rfl)]) rfl,
  fun f s W d i j k l a => opv rfl rfl (by simp [go_sem, a.e 20 (i 3 rfl)]) rfl, trivial⟩ ?_
  intro f5 s5 W5 hB5 g5 hg5
  have fB5 := hB5.f fB4
  have z5 := hB5.below.size
  have b5_0 := hB5.b b4_0
  have b5_1 := hB5.b b4_1
  have b5_2 := hB5.b b4_2
  have b5_3 := hB5.b b4_3
  have b5_4 := hB5.b b4_4
  have b5_5 := hB5.b b4_5
  refine hK7 _ _ ?_
  have k5_7 := kt hg5 7 (hB5.is 4)
  refine wp_ret ?_
  refine leave_one (N := 21) (v := .bool (!(badF ⟨(l1, h1), (l2, h2), (l3, h3), (l4, h4), (l5, h5), wo⟩ c off p (v0, v1) 2 || badF ⟨(l1, h1), (l2, h2), (l3, h3), (l4, h4), (l5, h5), wo⟩ c off p (v2, v3) 2))) (.inr rfl) Try.results79 rfl k5_7 ?_
  exact ⟨by have h' := hc4; simp at h'; simp [okP, h'], fB5⟩
set_option maxRecDepth 100000 in
set_option maxHeartbeats 400000 in
theorem closesP_3_2 (x0 x1 x2 x3 x4 x5 x6 : Value) (l1 h1 l2 h2 l3 h3 l4 h4 l5 h5 : Int) (wo : Bool) (hw : WishIn ⟨(l1, h1), (l2, h2), (l3, h3), (l4, h4), (l5, h5), wo⟩) (p c off v0 v1 v2 v3 : Int) (q0 o0 m0 q1 o1 m1 gq cap : Nat) (D1 D2 D3 D4 D5 : Nat) (w : World) (hgq : gq < w.heap.size) (e0 : w.cell? ⟨gq, 0, none⟩ = some (.slice (some ⟨q0, o0, none⟩) 2 m0)) (hI0 : Ii w (some ⟨q0, o0, none⟩) 2 m0 [v0, v1]) (hv0 : 0 ≤ v0) (hv0' : v0 ≤ 3000) (hv1 : 0 ≤ v1) (hv1' : v1 ≤ 3000) (e1 : w.cell? ⟨gq, 1, none⟩ = some (.slice (some ⟨q1, o1, none⟩) 2 m1)) (hI1 : Ii w (some ⟨q1, o1, none⟩) 2 m1 [v2, v3]) (hv2 : 0 ≤ v2) (hv2' : v2 ≤ 3000) (hv3 : 0 ≤ v3) (hv3' : v3 ≤ 3000) (hp1 : 0 ≤ p) (hp2 : p ≤ 3000) (hc1 : 0 ≤ c) (hc2 : c ≤ 100000) (ho1 : 0 ≤ off) (ho2 : off ≤ 5) (u1 : w.heap[D1]? = some (.cells #[.int .i64 c] 3 (0, 0))) (u2 : w.heap[D2]? = some (.cells #[.int .i64 l1, .int .i64 h1, .int .i64 l2, .int .i64 h2, .int .i64 l3, .int .i64 h3, .int .i64 l4, .int .i64 h4, .int .i64 l5, .int .i64 h5, .bool wo] 69 (0, 0))) (u3 : w.heap[D3]? = some (.cells #[.int .i64 3] 3 (0, 0))) (u4 : w.heap[D4]? = some (.cells #[x0, x1, x2, x3, x4, x5, x6, .int .i64 off] 104 (0, 0))) (u5 : w.heap[D5]? = some (.cells #[.slice (some ⟨gq, 0, none⟩) (2) (cap)] 107 (0, 0))) :
  Calls Try.prog 79 #[.int .i64 p, .pointer (some ⟨D1, 0, none⟩), .pointer (some ⟨D2, 0, none⟩), .pointer (some ⟨D3, 0, none⟩), .pointer (some ⟨D4, 0, none⟩), .pointer (some ⟨D5, 0, none⟩)] w (fun e w' => e = .returned (.bool (okP ⟨(l1, h1), (l2, h2), (l3, h3), (l4, h4), (l5, h5), wo⟩ c off p [(v0, v1), (v2, v3)] 3)) ∧ Below w.heap.size w w') := by
 have tb : -10000 ≤ (targetOf ⟨(l1, h1), (l2, h2), (l3, h3), (l4, h4), (l5, h5), wo⟩ 3).1 ∧ (targetOf ⟨(l1, h1), (l2, h2), (l3, h3), (l4, h4), (l5, h5), wo⟩ 3).1 ≤ 10000 ∧ -10000 ≤ (targetOf ⟨(l1, h1), (l2, h2), (l3, h3), (l4, h4), (l5, h5), wo⟩ 3).2 ∧ (targetOf ⟨(l1, h1), (l2, h2), (l3, h3), (l4, h4), (l5, h5), wo⟩ 3).2 ≤ 10000 := by have h := targetOf_in hw 3; omega
 refine calls_fr Try.func79 Try.ntmps79 rfl rfl fun g hg => ?_
 have k0 : g 0 = .int .i64 p := hg 0
 have k1 : g 1 = .pointer (some ⟨D1, 0, none⟩) := hg 1
 have k2 : g 2 = .pointer (some ⟨D2, 0, none⟩) := hg 2
 have k3 : g 3 = .pointer (some ⟨D3, 0, none⟩) := hg 3
 have k4 : g 4 = .pointer (some ⟨D4, 0, none⟩) := hg 4
 have k5 : g 5 = .pointer (some ⟨D5, 0, none⟩) := hg 5
 clear hg
 have fB0 : Below w.heap.size w w := Below.refl _ _
 have lt_D1 := lt_of_blk u1
 have lt_D2 := lt_of_blk u2
 have lt_D3 := lt_of_blk u3
 have lt_D4 := lt_of_blk u4
 have lt_D5 := lt_of_blk u5
 refine wp_seq_k fun K1 hK1 => ?_
 refine region_dk 2 [(6, 0), (7, 1)] [[], []] (rel [bx 0 #[.int .i64 p] 3,
   is (.bool false)])
  ⟨bx_k, is_k, trivial⟩
  ⟨fun f s W d i j k l a => opb rfl rfl (by simp [go_sem, a.e 0 k0]),
  fun f s W d i j k l a => opv rfl rfl (by simp [go_sem]) rfl, trivial⟩ ?_
 intro f1 s1 W1 hB1 g1 hg1
 have fB1 := hB1.f fB0
 have z1 := hB1.below.size
 have b1_0 := hB1.b u1
 have b1_1 := hB1.b u2
 have b1_2 := hB1.b u3
 have b1_3 := hB1.b u4
 have b1_4 := hB1.b u5
 obtain ⟨r1_0, br1_0⟩ := hB1.is 0
 have lr1_0 := hB1.lr 0 br1_0
 refine hK1 _ _ ?_
 have k1_1 := kt hg1 1 k1
 have k1_2 := kt hg1 2 k2
 have k1_3 := kt hg1 3 k3
 have k1_4 := kt hg1 4 k4
 have k1_5 := kt hg1 5 k5
 have k1_6 := kt hg1 6 r1_0
 have k1_7 := kt hg1 7 (hB1.is 1)
 refine wp_seq_k fun K2 hK2 => ?_
 refine wp_seq_k fun K3 hK3 => ?_
 refine region_dk 7 [(9, 0), (10, 1), (11, 2), (12, 3), (13, 4), (14, 5), (15, 6)] [[], [], [], [], [2, 3], [0, 1, 2, 3, 4], [0, 1, 2, 3, 4, 5]] (rel [is (.int .i64 p),
   is (.int .i64 c),
   is (.agg #[.int .i64 l1, .int .i64 h1, .int .i64 l2, .int .i64 h2, .int .i64 l3, .int .i64 h3, .int .i64 l4, .int .i64 h4, .int .i64 l5, .int .i64 h5, .bool wo]),
   is (.int .i64 3),
   is (.agg #[.int .i64 ((targetOf ⟨(l1, h1), (l2, h2), (l3, h3), (l4, h4), (l5, h5), wo⟩ 3).1), .int .i64 ((targetOf ⟨(l1, h1), (l2, h2), (l3, h3), (l4, h4), (l5, h5), wo⟩ 3).2)]),
   is (.bool (isInOf p 1 c (targetOf ⟨(l1, h1), (l2, h2), (l3, h3), (l4, h4), (l5, h5), wo⟩ 3))),
   is (.bool (!(isInOf p 1 c (targetOf ⟨(l1, h1), (l2, h2), (l3, h3), (l4, h4), (l5, h5), wo⟩ 3))))])
  ⟨is_k, is_k, is_k, is_k, is_k, is_k, is_k, trivial⟩
  ⟨fun f s W d i j k l a => opv rfl rfl (by simp [go_sem, a.e 6 k1_6, cb br1_0 d 0]) rfl,
  fun f s W d i j k l a => opv rfl rfl (by simp [go_sem, a.e 1 k1_1, cb b1_0 d 0]) rfl,
  fun f s W d i j k l a => opv rfl rfl (by simp [go_sem, a.e 2 k1_2, cb b1_1 d 0, cb b1_1 d 1, cb b1_1 d 2, cb b1_1 d 3, cb b1_1 d 4, cb b1_1 d 5, cb b1_1 d 6, cb b1_1 d 7, cb b1_1 d 8, cb b1_1 d 9, cb b1_1 d 10]) rfl,
  fun f s W d i j k l a => opv rfl rfl (by simp [go_sem, a.e 3 k1_3, cb b1_2 d 0]) rfl,
  fun f s W d i j k l a => opc rfl rfl (by simp [go_sem, a.e 11 (i 2 rfl), a.e 12 (i 3 rfl)]) (target_any l1 h1 l2 h2 l3 h3 l4 h4 l5 h5 wo 3 (by omega) W),
  fun f s W d i j k l a => opc (args := #[.int .i64 p, .int .i64 1, .int .i64 c, .agg #[.int .i64 ((targetOf ⟨(l1, h1), (l2, h2), (l3, h3), (l4, h4), (l5, h5), wo⟩ 3).1), .int .i64 ((targetOf ⟨(l1, h1), (l2, h2), (l3, h3), (l4, h4), (l5, h5), wo⟩ 3).2)]]) rfl rfl (by simp [go_sem, a.e 9 (i 0 rfl), a.e 10 (i 1 rfl), a.e 13 (i 4 rfl)]) (isIn_any p 1 c _ _ W (by omega) (by omega) (by omega) (by omega) hc1 hc2 tb.1 tb.2.1 tb.2.2.1 tb.2.2.2),
  fun f s W d i j k l a => opv rfl rfl (by simp [go_sem, a.e 14 (i 5 rfl)]) rfl, trivial⟩ ?_
 intro f2 s2 W2 hB2 g2 hg2
 have fB2 := hB2.f fB1
 have z2 := hB2.below.size
 have b2_0 := hB2.b b1_0
 have b2_1 := hB2.b b1_1
 have b2_2 := hB2.b b1_2
 have b2_3 := hB2.b b1_3
 have b2_4 := hB2.b b1_4
 have b2_5 := hB2.b br1_0
 refine hK3 _ _ ?_
 have k2_1 := kt hg2 1 k1_1
 have k2_2 := kt hg2 2 k1_2
 have k2_3 := kt hg2 3 k1_3
 have k2_4 := kt hg2 4 k1_4
 have k2_5 := kt hg2 5 k1_5
 have k2_6 := kt hg2 6 k1_6
 have k2_7 := kt hg2 7 k1_7
 have k2_15 := kt hg2 15 (hB2.is 6)
 refine wp_cond_split (t := !(isInOf p 1 c (targetOf ⟨(l1, h1), (l2, h2), (l3, h3), (l4, h4), (l5, h5), wo⟩ 3))) ((fr_eval rfl).trans k2_15) (fun hc4 => ?_) (fun hc4 => ?_)
 ·
  have hc4' := hc4; try simp only [ba] at hc4'
  refine wp_seq_k fun K5 hK5 => ?_
  refine region_dk 1 [(7, 0)] [[]] (rel [is (.bool false)])
   ⟨is_k, trivial⟩
   ⟨fun f s W d i j k l a => opv rfl rfl (by simp [go_sem]) rfl, trivial⟩ ?_
  intro f3 s3 W3 hB3 g3 hg3
  have fB3 := hB3.f fB2
  have z3 := hB3.below.size
  have b3_0 := hB3.b b2_0
  have b3_1 := hB3.b b2_1
  have b3_2 := hB3.b b2_2
  have b3_3 := hB3.b b2_3
  have b3_4 := hB3.b b2_4
  have b3_5 := hB3.b b2_5
  refine hK5 _ _ ?_
  have k3_1 := kt hg3 1 k2_1
  have k3_2 := kt hg3 2 k2_2
  have k3_3 := kt hg3 3 k2_3
  have k3_4 := kt hg3 4 k2_4
  have k3_5 := kt hg3 5 k2_5
  have k3_6 := kt hg3 6 k2_6
  have k3_7 := kt hg3 7 (hB3.is 0)
  refine wp_ret ?_
  refine then_ret ?_
  refine leave_one (N := 21) (v := .bool false) (.inr rfl) Try.results79 rfl k3_7 ?_
  exact ⟨by have h' := hc4; simp at h'; simp [okP, h'], fB3⟩
 ·
  have hc4' := hc4; try simp only [ba] at hc4'
  refine wp_skip ?_
  refine hK2 _ _ ?_
  refine wp_seq_k fun K6 hK6 => ?_
  refine region_dk 2 [(16, 0), (8, 1)] [[], [0]] (rel [is (.func (.func 81) #[] #[.pointer (some ⟨D3, 0, none⟩), .pointer (some ⟨D4, 0, none⟩), .pointer (some ⟨(s1 0), 0, none⟩), .pointer (some ⟨D1, 0, none⟩), .pointer (some ⟨D2, 0, none⟩)]),
   is (.func (.func 81) #[] #[.pointer (some ⟨D3, 0, none⟩), .pointer (some ⟨D4, 0, none⟩), .pointer (some ⟨(s1 0), 0, none⟩), .pointer (some ⟨D1, 0, none⟩), .pointer (some ⟨D2, 0, none⟩)])])
   ⟨is_k, is_k, trivial⟩
   ⟨fun f s W d i j k l a => opv rfl rfl (by simp [go_sem, a.e 3 k2_3, a.e 4 k2_4, a.e 6 k2_6, a.e 1 k2_1, a.e 2 k2_2]) rfl,
  fun f s W d i j k l a => opv rfl rfl (by simp [go_sem, a.e 16 (i 0 rfl)]) rfl, trivial⟩ ?_
  intro f4 s4 W4 hB4 g4 hg4
  have fB4 := hB4.f fB2
  have z4 := hB4.below.size
  have b4_0 := hB4.b b2_0
  have b4_1 := hB4.b b2_1
  have b4_2 := hB4.b b2_2
  have b4_3 := hB4.b b2_3
  have b4_4 := hB4.b b2_4
  have b4_5 := hB4.b b2_5
  refine hK6 _ _ ?_
  have k4_5 := kt hg4 5 k2_5
  have k4_7 := kt hg4 7 k2_7
  have k4_8 := kt hg4 8 (hB4.is 1)
  refine wp_seq_k fun K7 hK7 => ?_
  refine region_dk 5 [(17, 0), (18, 1), (19, 2), (20, 3), (7, 4)] [[], [], [0, 1], [0, 1, 2], [0, 1, 2, 3]] (rel [is (.slice (some ⟨gq, 0, none⟩) (2) (cap)),
   is (.func (.func 81) #[] #[.pointer (some ⟨D3, 0, none⟩), .pointer (some ⟨D4, 0, none⟩), .pointer (some ⟨(s1 0), 0, none⟩), .pointer (some ⟨D1, 0, none⟩), .pointer (some ⟨D2, 0, none⟩)]),
   is (.bool (badF ⟨(l1, h1), (l2, h2), (l3, h3), (l4, h4), (l5, h5), wo⟩ c off p (v0, v1) 3 || badF ⟨(l1, h1), (l2, h2), (l3, h3), (l4, h4), (l5, h5), wo⟩ c off p (v2, v3) 3)),
   is (.bool (!(badF ⟨(l1, h1), (l2, h2), (l3, h3), (l4, h4), (l5, h5), wo⟩ c off p (v0, v1) 3 || badF ⟨(l1, h1), (l2, h2), (l3, h3), (l4, h4), (l5, h5), wo⟩ c off p (v2, v3) 3))),
   is (.bool (!(badF ⟨(l1, h1), (l2, h2), (l3, h3), (l4, h4), (l5, h5), wo⟩ c off p (v0, v1) 3 || badF ⟨(l1, h1), (l2, h2), (l3, h3), (l4, h4), (l5, h5), wo⟩ c off p (v2, v3) 3)))])
   ⟨is_k, is_k, is_k, is_k, is_k, trivial⟩
   ⟨fun f s W d i j k l a => opv rfl rfl (by simp [go_sem, a.e 5 k4_5, cb b4_4 d 0]) rfl,
  fun f s W d i j k l a => opv rfl rfl (by simp [go_sem, a.e 8 k4_8]) rfl,
  fun f s W d i j k l a => by have m := below_trans fB4 d; exact opc (args := #[.slice (some ⟨gq, 0, none⟩) (2) (cap), .func (.func 81) #[] #[.pointer (some ⟨D3, 0, none⟩), .pointer (some ⟨D4, 0, none⟩), .pointer (some ⟨(s1 0), 0, none⟩), .pointer (some ⟨D1, 0, none⟩), .pointer (some ⟨D2, 0, none⟩)]]) rfl rfl (by simp [go_sem, a.e 17 (i 0 rfl), a.e 18 (i 1 rfl)]) (containsFunc_rows2 _ _ _ (badF ⟨(l1, h1), (l2, h2), (l3, h3), (l4, h4), (l5, h5), wo⟩ c off p (v0, v1) 3) _ _ _ (badF ⟨(l1, h1), (l2, h2), (l3, h3), (l4, h4), (l5, h5), wo⟩ c off p (v2, v3) 3) D3 D4 _ D1 D2 gq cap W (Nat.lt_of_lt_of_le hgq m.size) ((m.cell (p := ⟨gq, 0, none⟩) hgq).trans e0) ((m.cell (p := ⟨gq, 1, none⟩) hgq).trans e1) (fun W' hb' => closes3_3 x0 x1 x2 x3 x4 x5 x6 l1 h1 l2 h2 l3 h3 l4 h4 l5 h5 wo hw p c off v0 v1 q0 o0 m0 D3 D4 _ D1 D2 W' (hI0.below (below_trans m hb') (Nat.le_refl _)) hv0 hv0' hv1 hv1' hp1 hp2 hc1 hc2 ho1 ho2 (blk_below (blk_below b4_2 d) hb') (blk_below (blk_below b4_3 d) hb') (blk_below (blk_below b4_5 d) hb') (blk_below (blk_below b4_0 d) hb') (blk_below (blk_below b4_1 d) hb')) (fun W' hb' => closes3_3 x0 x1 x2 x3 x4 x5 x6 l1 h1 l2 h2 l3 h3 l4 h4 l5 h5 wo hw p c off v2 v3 q1 o1 m1 D3 D4 _ D1 D2 W' (hI1.below (below_trans m hb') (Nat.le_refl _)) hv2 hv2' hv3 hv3' hp1 hp2 hc1 hc2 ho1 ho2 (blk_below (blk_below b4_2 d) hb') (blk_below (blk_below b4_3 d) hb') (blk_below (blk_below b4_5 d) hb') (blk_below (blk_below b4_0 d) hb') (blk_below (blk_below b4_1 d) hb'))),
  fun f s W d i j k l a => opv rfl rfl (by simp [go_sem, a.e 19 (i 2 rfl)]) rfl,
  fun f s W d i j k l a => opv rfl rfl (by simp [go_sem, a.e 20 (i 3 rfl)]) rfl, trivial⟩ ?_
  intro f5 s5 W5 hB5 g5 hg5
  have fB5 := hB5.f fB4
  have z5 := hB5.below.size
  have b5_0 := hB5.b b4_0
  have b5_1 := hB5.b b4_1
  have b5_2 := hB5.b b4_2
  have b5_3 := hB5.b b4_3
  have b5_4 := hB5.b b4_4
  have b5_5 := hB5.b b4_5
  refine hK7 _ _ ?_
  have k5_7 := kt hg5 7 (hB5.is 4)
  refine wp_ret ?_
  refine leave_one (N := 21) (v := .bool (!(badF ⟨(l1, h1), (l2, h2), (l3, h3), (l4, h4), (l5, h5), wo⟩ c off p (v0, v1) 3 || badF ⟨(l1, h1), (l2, h2), (l3, h3), (l4, h4), (l5, h5), wo⟩ c off p (v2, v3) 3))) (.inr rfl) Try.results79 rfl k5_7 ?_
  exact ⟨by have h' := hc4; simp at h'; simp [okP, h'], fB5⟩
end Go.Proofs.Ythnediamopehfaa
