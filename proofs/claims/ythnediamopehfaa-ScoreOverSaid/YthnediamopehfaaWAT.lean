/- Part of the proof: what the claim leans on. -/
import Derived.Test.YthnediamopehfaaWAR
import Derived.Test.YthnediamopehfaaWAS
set_option linter.unusedSimpArgs false
set_option linter.unusedVariables false
namespace Go.Proofs.Ythnediamopehfaa
open Go.RowKit
/-- What a list of flaps says: whether none of them will do. -/
def badF (w : Wi) (c off p : Int) (u : Int × Int) (i : Nat) : Bool :=
  if i = 0 then !(someB 0 u.2 off fun x => isInOf (p - 2 * x) 1 c (targetOf w 6)) else if i = 1 then !(someB 0 u.1 off fun x => isInOf (p - 2 * x) 1 c (targetOf w 5)) else false
set_option maxRecDepth 100000 in
set_option maxHeartbeats 400000 in
theorem closes3_0 (x0 x1 x2 x3 x4 x5 x6 : Value) (l1 h1 l2 h2 l3 h3 l4 h4 l5 h5 : Int) (wo : Bool) (hw : WishIn ⟨(l1, h1), (l2, h2), (l3, h3), (l4, h4), (l5, h5), wo⟩) (p c off v0 v1 : Int) (b o cc : Nat) (D1 D2 D3 D4 D5 : Nat) (w : World) (hI : Ii w (some ⟨b, o, none⟩) 2 cc [v0, v1]) (hv0 : 0 ≤ v0) (hv0' : v0 ≤ 3000) (hv1 : 0 ≤ v1) (hv1' : v1 ≤ 3000) (hp1 : 0 ≤ p) (hp2 : p ≤ 3000) (hc1 : 0 ≤ c) (hc2 : c ≤ 100000) (ho1 : 0 ≤ off) (ho2 : off ≤ 5) (u1 : w.heap[D1]? = some (.cells #[.int .i64 0] 3 (0, 0))) (u2 : w.heap[D2]? = some (.cells #[x0, x1, x2, x3, x4, x5, x6, .int .i64 off] 104 (0, 0))) (u3 : w.heap[D3]? = some (.cells #[.int .i64 p] 3 (0, 0))) (u4 : w.heap[D4]? = some (.cells #[.int .i64 c] 3 (0, 0))) (u5 : w.heap[D5]? = some (.cells #[.int .i64 l1, .int .i64 h1, .int .i64 l2, .int .i64 h2, .int .i64 l3, .int .i64 h3, .int .i64 l4, .int .i64 h4, .int .i64 l5, .int .i64 h5, .bool wo] 69 (0, 0))) :
  Calls Try.prog 81 #[.slice (some ⟨b, o, none⟩) (2) (cc), .pointer (some ⟨D1, 0, none⟩), .pointer (some ⟨D2, 0, none⟩), .pointer (some ⟨D3, 0, none⟩), .pointer (some ⟨D4, 0, none⟩), .pointer (some ⟨D5, 0, none⟩)] w (fun e w' => e = .returned (.bool (badF ⟨(l1, h1), (l2, h2), (l3, h3), (l4, h4), (l5, h5), wo⟩ c off p (v0, v1) 0)) ∧ Below w.heap.size w w') := by
 obtain ⟨b', o', hbo, hbl, hcl⟩ := hI.at (by simp)
 cases hbo
 refine calls_fr Try.func81 Try.ntmps81 rfl rfl fun g hg => ?_
 have k0 : g 0 = .slice (some ⟨b, o, none⟩) (2) (cc) := hg 0
 have k1 : g 1 = .pointer (some ⟨D1, 0, none⟩) := hg 1
 have k2 : g 2 = .pointer (some ⟨D2, 0, none⟩) := hg 2
 have k3 : g 3 = .pointer (some ⟨D3, 0, none⟩) := hg 3
 have k4 : g 4 = .pointer (some ⟨D4, 0, none⟩) := hg 4
 have k5 : g 5 = .pointer (some ⟨D5, 0, none⟩) := hg 5
 clear hg
 have fB0 : Below w.heap.size w w := Below.refl _ _
 have lt_D1 := lt_of_blk u1
 have lt_D2 := lt_of_blk u2
 have lt_D3 := lt_of_blk u3
 have lt_D4 := lt_of_blk u4
 have lt_D5 := lt_of_blk u5
 refine wp_seq_k fun K1 hK1 => ?_
 refine region_dk 1 [(7, 0)] [[]] (rel [is (.bool false)])
  ⟨is_k, trivial⟩
  ⟨fun f s W i j k l m a => opv rfl rfl (by simp [go_sem]) rfl, trivial⟩ ?_
 intro f1 s1 W1 hB1 g1 hg1
 have fB1 := hB1.f fB0
 have z1 := hB1.below.size
 have b1_0 := hB1.b u1
 have b1_1 := hB1.b u2
 have b1_2 := hB1.b u3
 have b1_3 := hB1.b u4
 have b1_4 := hB1.b u5
 refine hK1 _ _ ?_
 have k1_0 := kt hg1 0 k0
 have k1_1 := kt hg1 1 k1
 have k1_2 := kt hg1 2 k2
 have k1_3 := kt hg1 3 k3
 have k1_4 := kt hg1 4 k4
 have k1_5 := kt hg1 5 k5
 have k1_7 := kt hg1 7 (hB1.is 0)
 refine wp_seq_k fun K2 hK2 => ?_
 refine region_dk 14 [(8, 0), (9, 1), (10, 2), (11, 3), (12, 4), (13, 5), (14, 6), (15, 7), (16, 8), (17, 9), (18, 10), (19, 11), (20, 12), (7, 13)] [[], [0], [0, 1], [0, 1, 2], [0, 1, 2], [0, 1, 2], [0, 1, 2, 5], [0, 1, 2, 4, 5, 6], [0, 1, 2, 4, 5, 6, 7], [0, 1, 2], [0, 1, 2, 3, 4, 5, 6, 7, 8, 9], [0, 1, 2, 3, 4, 5, 6, 7, 8, 9, 10], [0, 1, 2, 3, 4, 5, 6, 7, 8, 9, 10, 11], [0, 1, 2, 3, 4, 5, 6, 7, 8, 9, 10, 11, 12]] (rel [is (.int .i64 0),
   is (.bool true),
   is (.bool true),
   gd (true) true (is (.agg #[x0, x1, x2, x3, x4, x5, x6, .int .i64 off])),
   gd (true) true (is (.slice (some ⟨b, o, none⟩) (2) (cc))),
   gd (true) true (is (.int .i64 0)),
   gd (true) true (is (.int .i64 1)),
   gd (true) true (is (.pointer (some ⟨b, o + 1, none⟩))),
   gd (true) true (is (.int .i64 v1)),
   gd (true) true (is (.func (.func 82) #[] #[.pointer (some ⟨D3, 0, none⟩), .pointer (some ⟨D4, 0, none⟩), .pointer (some ⟨D5, 0, none⟩), .pointer (some ⟨D1, 0, none⟩)])),
   gd (true) true (is (.bool (someB 0 v1 off (fun x => isInOf (p - 2 * x) 1 c (targetOf ⟨(l1, h1), (l2, h2), (l3, h3), (l4, h4), (l5, h5), wo⟩ (6 - 0)))))),
   gd (true) true (is (.bool (!(someB 0 v1 off (fun x => isInOf (p - 2 * x) 1 c (targetOf ⟨(l1, h1), (l2, h2), (l3, h3), (l4, h4), (l5, h5), wo⟩ (6 - 0))))))),
   is (.bool (!(someB 0 v1 off (fun x => isInOf (p - 2 * x) 1 c (targetOf ⟨(l1, h1), (l2, h2), (l3, h3), (l4, h4), (l5, h5), wo⟩ (6 - 0)))))),
   is (.bool (!(someB 0 v1 off (fun x => isInOf (p - 2 * x) 1 c (targetOf ⟨(l1, h1), (l2, h2), (l3, h3), (l4, h4), (l5, h5), wo⟩ (6 - 0))))))])
  ⟨is_k, is_k, is_k, gd_k (is_k), gd_k (is_k), gd_k (is_k), gd_k (is_k), gd_k (is_k), gd_k (is_k), gd_k (is_k), gd_k (is_k), gd_k (is_k), is_k, is_k, trivial⟩
  ⟨fun f s W i j k l m a => opv rfl rfl (by simp [go_sem, a.e 1 k1_1, cb b1_0 i 0]) rfl,
  fun f s W i j k l m a => opv rfl rfl (by simp [go_sem, a.e 8 (j 0 rfl)]) rfl,
  fun f s W i j k l m a => opv rfl rfl (by simp [go_sem, a.e 9 (j 1 rfl)]) rfl,
  fun f s W i j k l m a => gdo rfl rfl (a.says (d := 10) rfl rfl (j 2 rfl)) fun hgd0 => gv (by simp [go_sem, a.e 2 k1_2, cb b1_1 i 0, cb b1_1 i 1, cb b1_1 i 2, cb b1_1 i 3, cb b1_1 i 4, cb b1_1 i 5, cb b1_1 i 6, cb b1_1 i 7]) rfl,
  fun f s W i j k l m a => gdo rfl rfl (a.says (d := 10) rfl rfl (j 2 rfl)) fun hgd0 => gv (by simp [go_sem, a.e 0 k1_0]) rfl,
  fun f s W i j k l m a => gdo rfl rfl (a.says (d := 10) rfl rfl (j 2 rfl)) fun hgd0 => gv (by simp [go_sem, a.e 1 k1_1, cb b1_0 i 0]) rfl,
  fun f s W i j k l m a => gdo rfl rfl (a.says (d := 10) rfl rfl (j 2 rfl)) fun hgd0 => gv (by simp [go_sem, a.e 13 ((j 5 rfl).1 hgd0), IntWalk.i64_in (1) (by omega)]) rfl,
  fun f s W i j k l m a => gdo rfl rfl (a.says (d := 10) rfl rfl (j 2 rfl)) fun hgd0 => gv (by simp [go_sem, a.e 12 ((j 4 rfl).1 hgd0), a.e 14 ((j 6 rfl).1 hgd0)]) rfl,
  fun f s W i j k l m a => gdo rfl rfl (a.says (d := 10) rfl rfl (j 2 rfl)) fun hgd0 => by have n := below_trans fB1 i; have uu : W.cell? ⟨b, o + 1, none⟩ = some (.int .i64 v1) := (n.cell (p := ⟨b, o + 1, none⟩) hbl).trans (hcl 1 (by simp)); exact gv (by simp [go_sem, a.e 15 ((j 7 rfl).1 hgd0), uu]) rfl,
  fun f s W i j k l m a => gdo rfl rfl (a.says (d := 10) rfl rfl (j 2 rfl)) fun hgd0 => gv (by simp [go_sem, a.e 3 k1_3, a.e 4 k1_4, a.e 5 k1_5, a.e 1 k1_1]) rfl,
  fun f s W i j k l m a => gdo rfl rfl (a.says (d := 10) rfl rfl (j 2 rfl)) fun hgd0 => gc (args := #[.agg #[x0, x1, x2, x3, x4, x5, x6, .int .i64 off], .int .i64 0, .int .i64 v1, .func (.func 82) #[] #[.pointer (some ⟨D3, 0, none⟩), .pointer (some ⟨D4, 0, none⟩), .pointer (some ⟨D5, 0, none⟩), .pointer (some ⟨D1, 0, none⟩)]]) (by simp [go_sem, a.e 11 ((j 3 rfl).1 hgd0), a.e 16 ((j 8 rfl).1 hgd0), a.e 17 ((j 9 rfl).1 hgd0)]) (some_any x0 x1 x2 x3 x4 x5 x6 off 0 v1 82 #[.pointer (some ⟨D3, 0, none⟩), .pointer (some ⟨D4, 0, none⟩), .pointer (some ⟨D5, 0, none⟩), .pointer (some ⟨D1, 0, none⟩)] (fun x => isInOf (p - 2 * x) 1 c (targetOf ⟨(l1, h1), (l2, h2), (l3, h3), (l4, h4), (l5, h5), wo⟩ (6 - 0))) W (by omega) (by omega) (by omega) (by omega) (by omega) (by omega) (fun _ _ => by simp [go_sem]) (fun x y1 y2 W' hb' => closes4_any l1 h1 l2 h2 l3 h3 l4 h4 l5 h5 wo hw x p c 0 (by omega) D3 D4 D5 D1 W' hp1 hp2 (by unfold loOf at y1; omega) (by unfold hiOf at y2; omega) hc1 hc2 (blk_below (blk_below b1_2 i) hb') (blk_below (blk_below b1_3 i) hb') (blk_below (blk_below b1_4 i) hb') (blk_below (blk_below b1_0 i) hb'))),
  fun f s W i j k l m a => gdo rfl rfl (a.says (d := 10) rfl rfl (j 2 rfl)) fun hgd0 => gv (by simp [go_sem, a.e 18 ((j 10 rfl).1 hgd0)]) rfl,
  fun f s W i j k l m a => opk (c := true) rfl rfl (fun h => absurd h (by decide)) (fun _ => by simp [go_sem, a.e 10 (j 2 rfl), a.e 19 ((j 11 rfl).1 rfl)]),
  fun f s W i j k l m a => opv rfl rfl (by simp [go_sem, a.e 20 (j 12 rfl)]) rfl, trivial⟩ ?_
 intro f2 s2 W2 hB2 g2 hg2
 have fB2 := hB2.f fB1
 have z2 := hB2.below.size
 have b2_0 := hB2.b b1_0
 have b2_1 := hB2.b b1_1
 have b2_2 := hB2.b b1_2
 have b2_3 := hB2.b b1_3
 have b2_4 := hB2.b b1_4
 refine hK2 _ _ ?_
 have k2_7 := kt hg2 7 (hB2.is 13)
 refine wp_ret ?_
 refine leave_one (N := 21) (v := .bool (!(someB 0 v1 off (fun x => isInOf (p - 2 * x) 1 c (targetOf ⟨(l1, h1), (l2, h2), (l3, h3), (l4, h4), (l5, h5), wo⟩ (6 - 0)))))) (.inr rfl) Try.results81 rfl k2_7 ?_
 exact ⟨rfl, fB2⟩
set_option maxRecDepth 100000 in
set_option maxHeartbeats 400000 in
theorem closes3_1 (x0 x1 x2 x3 x4 x5 x6 : Value) (l1 h1 l2 h2 l3 h3 l4 h4 l5 h5 : Int) (wo : Bool) (hw : WishIn ⟨(l1, h1), (l2, h2), (l3, h3), (l4, h4), (l5, h5), wo⟩) (p c off v0 v1 : Int) (b o cc : Nat) (D1 D2 D3 D4 D5 : Nat) (w : World) (hI : Ii w (some ⟨b, o, none⟩) 2 cc [v0, v1]) (hv0 : 0 ≤ v0) (hv0' : v0 ≤ 3000) (hv1 : 0 ≤ v1) (hv1' : v1 ≤ 3000) (hp1 : 0 ≤ p) (hp2 : p ≤ 3000) (hc1 : 0 ≤ c) (hc2 : c ≤ 100000) (ho1 : 0 ≤ off) (ho2 : off ≤ 5) (u1 : w.heap[D1]? = some (.cells #[.int .i64 1] 3 (0, 0))) (u2 : w.heap[D2]? = some (.cells #[x0, x1, x2, x3, x4, x5, x6, .int .i64 off] 104 (0, 0))) (u3 : w.heap[D3]? = some (.cells #[.int .i64 p] 3 (0, 0))) (u4 : w.heap[D4]? = some (.cells #[.int .i64 c] 3 (0, 0))) (u5 : w.heap[D5]? = some (.cells #[.int .i64 l1, .int .i64 h1, .int .i64 l2, .int .i64 h2, .int .i64 l3, .int .i64 h3, .int .i64 l4, .int .i64 h4, .int .i64 l5, .int .i64 h5, .bool wo] 69 (0, 0))) :
  Calls Try.prog 81 #[.slice (some ⟨b, o, none⟩) (2) (cc), .pointer (some ⟨D1, 0, none⟩), .pointer (some ⟨D2, 0, none⟩), .pointer (some ⟨D3, 0, none⟩), .pointer (some ⟨D4, 0, none⟩), .pointer (some ⟨D5, 0, none⟩)] w (fun e w' => e = .returned (.bool (badF ⟨(l1, h1), (l2, h2), (l3, h3), (l4, h4), (l5, h5), wo⟩ c off p (v0, v1) 1)) ∧ Below w.heap.size w w') := by
 obtain ⟨b', o', hbo, hbl, hcl⟩ := hI.at (by simp)
 cases hbo
 refine calls_fr Try.func81 Try.ntmps81 rfl rfl fun g hg => ?_
 have k0 : g 0 = .slice (some ⟨b, o, none⟩) (2) (cc) := hg 0
 have k1 : g 1 = .pointer (some ⟨D1, 0, none⟩) := hg 1
 have k2 : g 2 = .pointer (some ⟨D2, 0, none⟩) := hg 2
 have k3 : g 3 = .pointer (some ⟨D3, 0, none⟩) := hg 3
 have k4 : g 4 = .pointer (some ⟨D4, 0, none⟩) := hg 4
 have k5 : g 5 = .pointer (some ⟨D5, 0, none⟩) := hg 5
 clear hg
 have fB0 : Below w.heap.size w w := Below.refl _ _
 have lt_D1 := lt_of_blk u1
 have lt_D2 := lt_of_blk u2
 have lt_D3 := lt_of_blk u3
 have lt_D4 := lt_of_blk u4
 have lt_D5 := lt_of_blk u5
 refine wp_seq_k fun K1 hK1 => ?_
 refine region_dk 1 [(7, 0)] [[]] (rel [is (.bool false)])
  ⟨is_k, trivial⟩
  ⟨fun f s W i j k l m a => opv rfl rfl (by simp [go_sem]) rfl, trivial⟩ ?_
 intro f1 s1 W1 hB1 g1 hg1
 have fB1 := hB1.f fB0
 have z1 := hB1.below.size
 have b1_0 := hB1.b u1
 have b1_1 := hB1.b u2
 have b1_2 := hB1.b u3
 have b1_3 := hB1.b u4
 have b1_4 := hB1.b u5
 refine hK1 _ _ ?_
 have k1_0 := kt hg1 0 k0
 have k1_1 := kt hg1 1 k1
 have k1_2 := kt hg1 2 k2
 have k1_3 := kt hg1 3 k3
 have k1_4 := kt hg1 4 k4
 have k1_5 := kt hg1 5 k5
 have k1_7 := kt hg1 7 (hB1.is 0)
 refine wp_seq_k fun K2 hK2 => ?_
 refine region_dk 14 [(8, 0), (9, 1), (10, 2), (11, 3), (12, 4), (13, 5), (14, 6), (15, 7), (16, 8), (17, 9), (18, 10), (19, 11), (20, 12), (7, 13)] [[], [0], [0, 1], [0, 1, 2], [0, 1, 2], [0, 1, 2], [0, 1, 2, 5], [0, 1, 2, 4, 5, 6], [0, 1, 2, 4, 5, 6, 7], [0, 1, 2], [0, 1, 2, 3, 4, 5, 6, 7, 8, 9], [0, 1, 2, 3, 4, 5, 6, 7, 8, 9, 10], [0, 1, 2, 3, 4, 5, 6, 7, 8, 9, 10, 11], [0, 1, 2, 3, 4, 5, 6, 7, 8, 9, 10, 11, 12]] (rel [is (.int .i64 1),
   is (.bool true),
   is (.bool true),
   gd (true) true (is (.agg #[x0, x1, x2, x3, x4, x5, x6, .int .i64 off])),
   gd (true) true (is (.slice (some ⟨b, o, none⟩) (2) (cc))),
   gd (true) true (is (.int .i64 1)),
   gd (true) true (is (.int .i64 0)),
   gd (true) true (is (.pointer (some ⟨b, o, none⟩))),
   gd (true) true (is (.int .i64 v0)),
   gd (true) true (is (.func (.func 82) #[] #[.pointer (some ⟨D3, 0, none⟩), .pointer (some ⟨D4, 0, none⟩), .pointer (some ⟨D5, 0, none⟩), .pointer (some ⟨D1, 0, none⟩)])),
   gd (true) true (is (.bool (someB 0 v0 off (fun x => isInOf (p - 2 * x) 1 c (targetOf ⟨(l1, h1), (l2, h2), (l3, h3), (l4, h4), (l5, h5), wo⟩ (6 - 1)))))),
   gd (true) true (is (.bool (!(someB 0 v0 off (fun x => isInOf (p - 2 * x) 1 c (targetOf ⟨(l1, h1), (l2, h2), (l3, h3), (l4, h4), (l5, h5), wo⟩ (6 - 1))))))),
   is (.bool (!(someB 0 v0 off (fun x => isInOf (p - 2 * x) 1 c (targetOf ⟨(l1, h1), (l2, h2), (l3, h3), (l4, h4), (l5, h5), wo⟩ (6 - 1)))))),
   is (.bool (!(someB 0 v0 off (fun x => isInOf (p - 2 * x) 1 c (targetOf ⟨(l1, h1), (l2, h2), (l3, h3), (l4, h4), (l5, h5), wo⟩ (6 - 1))))))])
  ⟨is_k, is_k, is_k, gd_k (is_k), gd_k (is_k), gd_k (is_k), gd_k (is_k), gd_k (is_k), gd_k (is_k), gd_k (is_k), gd_k (is_k), gd_k (is_k), is_k, is_k, trivial⟩
  ⟨fun f s W i j k l m a => opv rfl rfl (by simp [go_sem, a.e 1 k1_1, cb b1_0 i 0]) rfl,
  fun f s W i j k l m a => opv rfl rfl (by simp [go_sem, a.e 8 (j 0 rfl)]) rfl,
  fun f s W i j k l m a => opv rfl rfl (by simp [go_sem, a.e 9 (j 1 rfl)]) rfl,
  fun f s W i j k l m a => gdo rfl rfl (a.says (d := 10) rfl rfl (j 2 rfl)) fun hgd0 => gv (by simp [go_sem, a.e 2 k1_2, cb b1_1 i 0, cb b1_1 i 1, cb b1_1 i 2, cb b1_1 i 3, cb b1_1 i 4, cb b1_1 i 5, cb b1_1 i 6, cb b1_1 i 7]) rfl,
  fun f s W i j k l m a => gdo rfl rfl (a.says (d := 10) rfl rfl (j 2 rfl)) fun hgd0 => gv (by simp [go_sem, a.e 0 k1_0]) rfl,
  fun f s W i j k l m a => gdo rfl rfl (a.says (d := 10) rfl rfl (j 2 rfl)) fun hgd0 => gv (by simp [go_sem, a.e 1 k1_1, cb b1_0 i 0]) rfl,
  fun f s W i j k l m a => gdo rfl rfl (a.says (d := 10) rfl rfl (j 2 rfl)) fun hgd0 => gv (by simp [go_sem, a.e 13 ((j 5 rfl).1 hgd0), IntWalk.i64_in (0) (by omega)]) rfl,
  fun f s W i j k l m a => gdo rfl rfl (a.says (d := 10) rfl rfl (j 2 rfl)) fun hgd0 => gv (by simp [go_sem, a.e 12 ((j 4 rfl).1 hgd0), a.e 14 ((j 6 rfl).1 hgd0)]) rfl,
  fun f s W i j k l m a => gdo rfl rfl (a.says (d := 10) rfl rfl (j 2 rfl)) fun hgd0 => by have n := below_trans fB1 i; have uu : W.cell? ⟨b, o, none⟩ = some (.int .i64 v0) := (n.cell (p := ⟨b, o + 0, none⟩) hbl).trans (hcl 0 (by simp)); exact gv (by simp [go_sem, a.e 15 ((j 7 rfl).1 hgd0), uu]) rfl,
  fun f s W i j k l m a => gdo rfl rfl (a.says (d := 10) rfl rfl (j 2 rfl)) fun hgd0 => gv (by simp [go_sem, a.e 3 k1_3, a.e 4 k1_4, a.e 5 k1_5, a.e 1 k1_1]) rfl,
  fun f s W i j k l m a => gdo rfl rfl (a.says (d := 10) rfl rfl (j 2 rfl)) fun hgd0 => gc (args := #[.agg #[x0, x1, x2, x3, x4, x5, x6, .int .i64 off], .int .i64 0, .int .i64 v0, .func (.func 82) #[] #[.pointer (some ⟨D3, 0, none⟩), .pointer (some ⟨D4, 0, none⟩), .pointer (some ⟨D5, 0, none⟩), .pointer (some ⟨D1, 0, none⟩)]]) (by simp [go_sem, a.e 11 ((j 3 rfl).1 hgd0), a.e 16 ((j 8 rfl).1 hgd0), a.e 17 ((j 9 rfl).1 hgd0)]) (some_any x0 x1 x2 x3 x4 x5 x6 off 0 v0 82 #[.pointer (some ⟨D3, 0, none⟩), .pointer (some ⟨D4, 0, none⟩), .pointer (some ⟨D5, 0, none⟩), .pointer (some ⟨D1, 0, none⟩)] (fun x => isInOf (p - 2 * x) 1 c (targetOf ⟨(l1, h1), (l2, h2), (l3, h3), (l4, h4), (l5, h5), wo⟩ (6 - 1))) W (by omega) (by omega) (by omega) (by omega) (by omega) (by omega) (fun _ _ => by simp [go_sem]) (fun x y1 y2 W' hb' => closes4_any l1 h1 l2 h2 l3 h3 l4 h4 l5 h5 wo hw x p c 1 (by omega) D3 D4 D5 D1 W' hp1 hp2 (by unfold loOf at y1; omega) (by unfold hiOf at y2; omega) hc1 hc2 (blk_below (blk_below b1_2 i) hb') (blk_below (blk_below b1_3 i) hb') (blk_below (blk_below b1_4 i) hb') (blk_below (blk_below b1_0 i) hb'))),
  fun f s W i j k l m a => gdo rfl rfl (a.says (d := 10) rfl rfl (j 2 rfl)) fun hgd0 => gv (by simp [go_sem, a.e 18 ((j 10 rfl).1 hgd0)]) rfl,
  fun f s W i j k l m a => opk (c := true) rfl rfl (fun h => absurd h (by decide)) (fun _ => by simp [go_sem, a.e 10 (j 2 rfl), a.e 19 ((j 11 rfl).1 rfl)]),
  fun f s W i j k l m a => opv rfl rfl (by simp [go_sem, a.e 20 (j 12 rfl)]) rfl, trivial⟩ ?_
 intro f2 s2 W2 hB2 g2 hg2
 have fB2 := hB2.f fB1
 have z2 := hB2.below.size
 have b2_0 := hB2.b b1_0
 have b2_1 := hB2.b b1_1
 have b2_2 := hB2.b b1_2
 have b2_3 := hB2.b b1_3
 have b2_4 := hB2.b b1_4
 refine hK2 _ _ ?_
 have k2_7 := kt hg2 7 (hB2.is 13)
 refine wp_ret ?_
 refine leave_one (N := 21) (v := .bool (!(someB 0 v0 off (fun x => isInOf (p - 2 * x) 1 c (targetOf ⟨(l1, h1), (l2, h2), (l3, h3), (l4, h4), (l5, h5), wo⟩ (6 - 1)))))) (.inr rfl) Try.results81 rfl k2_7 ?_
 exact ⟨rfl, fB2⟩
set_option maxRecDepth 100000 in
set_option maxHeartbeats 400000 in
theorem closes3_2 (x0 x1 x2 x3 x4 x5 x6 : Value) (l1 h1 l2 h2 l3 h3 l4 h4 l5 h5 : Int) (wo : Bool) (hw : WishIn ⟨(l1, h1), (l2, h2), (l3, h3), (l4, h4), (l5, h5), wo⟩) (p c off v0 v1 : Int) (b o cc : Nat) (D1 D2 D3 D4 D5 : Nat) (w : World) (hI : Ii w (some ⟨b, o, none⟩) 2 cc [v0, v1]) (hv0 : 0 ≤ v0) (hv0' : v0 ≤ 3000) (hv1 : 0 ≤ v1) (hv1' : v1 ≤ 3000) (hp1 : 0 ≤ p) (hp2 : p ≤ 3000) (hc1 : 0 ≤ c) (hc2 : c ≤ 100000) (ho1 : 0 ≤ off) (ho2 : off ≤ 5) (u1 : w.heap[D1]? = some (.cells #[.int .i64 2] 3 (0, 0))) (u2 : w.heap[D2]? = some (.cells #[x0, x1, x2, x3, x4, x5, x6, .int .i64 off] 104 (0, 0))) (u3 : w.heap[D3]? = some (.cells #[.int .i64 p] 3 (0, 0))) (u4 : w.heap[D4]? = some (.cells #[.int .i64 c] 3 (0, 0))) (u5 : w.heap[D5]? = some (.cells #[.int .i64 l1, .int .i64 h1, .int .i64 l2, .int .i64 h2, .int .i64 l3, .int .i64 h3, .int .i64 l4, .int .i64 h4, .int .i64 l5, .int .i64 h5, .bool wo] 69 (0, 0))) :
  Calls Try.prog 81 #[.slice (some ⟨b, o, none⟩) (2) (cc), .pointer (some ⟨D1, 0, none⟩), .pointer (some ⟨D2, 0, none⟩), .pointer (some ⟨D3, 0, none⟩), .pointer (some ⟨D4, 0, none⟩), .pointer (some ⟨D5, 0, none⟩)] w (fun e w' => e = .returned (.bool (badF ⟨(l1, h1), (l2, h2), (l3, h3), (l4, h4), (l5, h5), wo⟩ c off p (v0, v1) 2)) ∧ Below w.heap.size w w') := by
 obtain ⟨b', o', hbo, hbl, hcl⟩ := hI.at (by simp)
 cases hbo
 refine calls_fr Try.func81 Try.ntmps81 rfl rfl fun g hg => ?_
 have k0 : g 0 = .slice (some ⟨b, o, none⟩) (2) (cc) := hg 0
 have k1 : g 1 = .pointer (some ⟨D1, 0, none⟩) := hg 1
 have k2 : g 2 = .pointer (some ⟨D2, 0, none⟩) := hg 2
 have k3 : g 3 = .pointer (some ⟨D3, 0, none⟩) := hg 3
 have k4 : g 4 = .pointer (some ⟨D4, 0, none⟩) := hg 4
 have k5 : g 5 = .pointer (some ⟨D5, 0, none⟩) := hg 5
 clear hg
 have fB0 : Below w.heap.size w w := Below.refl _ _
 have lt_D1 := lt_of_blk u1
 have lt_D2 := lt_of_blk u2
 have lt_D3 := lt_of_blk u3
 have lt_D4 := lt_of_blk u4
 have lt_D5 := lt_of_blk u5
 refine wp_seq_k fun K1 hK1 => ?_
 refine region_dk 1 [(7, 0)] [[]] (rel [is (.bool false)])
  ⟨is_k, trivial⟩
  ⟨fun f s W i j k l m a => opv rfl rfl (by simp [go_sem]) rfl, trivial⟩ ?_
 intro f1 s1 W1 hB1 g1 hg1
 have fB1 := hB1.f fB0
 have z1 := hB1.below.size
 have b1_0 := hB1.b u1
 have b1_1 := hB1.b u2
 have b1_2 := hB1.b u3
 have b1_3 := hB1.b u4
 have b1_4 := hB1.b u5
 refine hK1 _ _ ?_
 have k1_0 := kt hg1 0 k0
 have k1_1 := kt hg1 1 k1
 have k1_2 := kt hg1 2 k2
 have k1_3 := kt hg1 3 k3
 have k1_4 := kt hg1 4 k4
 have k1_5 := kt hg1 5 k5
 have k1_7 := kt hg1 7 (hB1.is 0)
 refine wp_seq_k fun K2 hK2 => ?_
 refine region_dk 14 [(8, 0), (9, 1), (10, 2), (11, 3), (12, 4), (13, 5), (14, 6), (15, 7), (16, 8), (17, 9), (18, 10), (19, 11), (20, 12), (7, 13)] [[], [0], [0, 1], [0, 1, 2], [0, 1, 2], [0, 1, 2], [0, 1, 2, 5], [0, 1, 2, 4, 5, 6], [0, 1, 2, 4, 5, 6, 7], [0, 1, 2], [0, 1, 2, 3, 4, 5, 6, 7, 8, 9], [0, 1, 2, 3, 4, 5, 6, 7, 8, 9, 10], [0, 1, 2, 3, 4, 5, 6, 7, 8, 9, 10, 11], [0, 1, 2, 3, 4, 5, 6, 7, 8, 9, 10, 11, 12]] (rel [is (.int .i64 2),
   is (.bool false),
   is (.bool false),
   gd (false) true (fun _ _ _ => True),
   gd (false) true (fun _ _ _ => True),
   gd (false) true (fun _ _ _ => True),
   gd (false) true (fun _ _ _ => True),
   gd (false) true (fun _ _ _ => True),
   gd (false) true (fun _ _ _ => True),
   gd (false) true (fun _ _ _ => True),
   gd (false) true (fun _ _ _ => True),
   gd (false) true (fun _ _ _ => True),
   is (.bool false),
   is (.bool false)])
  ⟨is_k, is_k, is_k, gdt_k, gdt_k, gdt_k, gdt_k, gdt_k, gdt_k, gdt_k, gdt_k, gdt_k, is_k, is_k, trivial⟩
  ⟨fun f s W i j k l m a => opv rfl rfl (by simp [go_sem, a.e 1 k1_1, cb b1_0 i 0]) rfl,
  fun f s W i j k l m a => opv rfl rfl (by simp [go_sem, a.e 8 (j 0 rfl)]) rfl,
  fun f s W i j k l m a => opv rfl rfl (by simp [go_sem, a.e 9 (j 1 rfl)]) rfl,
  fun f s W i j k l m a => gno (a.says (d := 10) rfl rfl (j 2 rfl)),
  fun f s W i j k l m a => gno (a.says (d := 10) rfl rfl (j 2 rfl)),
  fun f s W i j k l m a => gno (a.says (d := 10) rfl rfl (j 2 rfl)),
  fun f s W i j k l m a => gno (a.says (d := 10) rfl rfl (j 2 rfl)),
  fun f s W i j k l m a => gno (a.says (d := 10) rfl rfl (j 2 rfl)),
  fun f s W i j k l m a => gno (a.says (d := 10) rfl rfl (j 2 rfl)),
  fun f s W i j k l m a => gno (a.says (d := 10) rfl rfl (j 2 rfl)),
  fun f s W i j k l m a => gno (a.says (d := 10) rfl rfl (j 2 rfl)),
  fun f s W i j k l m a => gno (a.says (d := 10) rfl rfl (j 2 rfl)),
  fun f s W i j k l m a => opk (c := false) rfl rfl (fun _ => by simp [go_sem, a.e 10 (j 2 rfl)]) (fun h => absurd h (by decide)),
  fun f s W i j k l m a => opv rfl rfl (by simp [go_sem, a.e 20 (j 12 rfl)]) rfl, trivial⟩ ?_
 intro f2 s2 W2 hB2 g2 hg2
 have fB2 := hB2.f fB1
 have z2 := hB2.below.size
 have b2_0 := hB2.b b1_0
 have b2_1 := hB2.b b1_1
 have b2_2 := hB2.b b1_2
 have b2_3 := hB2.b b1_3
 have b2_4 := hB2.b b1_4
 refine hK2 _ _ ?_
 have k2_7 := kt hg2 7 (hB2.is 13)
 refine wp_ret ?_
 refine leave_one (N := 21) (v := .bool false) (.inr rfl) Try.results81 rfl k2_7 ?_
 exact ⟨rfl, fB2⟩
set_option maxRecDepth 100000 in
set_option maxHeartbeats 400000 in
theorem closes3_3 (x0 x1 x2 x3 x4 x5 x6 : Value) (l1 h1 l2 h2 l3 h3 l4 h4 l5 h5 : Int) (wo : Bool) (hw : WishIn ⟨(l1, h1), (l2, h2), (l3, h3), (l4, h4), (l5, h5), wo⟩) (p c off v0 v1 : Int) (b o cc : Nat) (D1 D2 D3 D4 D5 : Nat) (w : World) (hI : Ii w (some ⟨b, o, none⟩) 2 cc [v0, v1]) (hv0 : 0 ≤ v0) (hv0' : v0 ≤ 3000) (hv1 : 0 ≤ v1) (hv1' : v1 ≤ 3000) (hp1 : 0 ≤ p) (hp2 : p ≤ 3000) (hc1 : 0 ≤ c) (hc2 : c ≤ 100000) (ho1 : 0 ≤ off) (ho2 : off ≤ 5) (u1 : w.heap[D1]? = some (.cells #[.int .i64 3] 3 (0, 0))) (u2 : w.heap[D2]? = some (.cells #[x0, x1, x2, x3, x4, x5, x6, .int .i64 off] 104 (0, 0))) (u3 : w.heap[D3]? = some (.cells #[.int .i64 p] 3 (0, 0))) (u4 : w.heap[D4]? = some (.cells #[.int .i64 c] 3 (0, 0))) (u5 : w.heap[D5]? = some (.cells #[.int .i64 l1, .int .i64 h1, .int .i64 l2, .int .i64 h2, .int .i64 l3, .int .i64 h3, .int .i64 l4, .int .i64 h4, .int .i64 l5, .int .i64 h5, .bool wo] 69 (0, 0))) :
  Calls Try.prog 81 #[.slice (some ⟨b, o, none⟩) (2) (cc), .pointer (some ⟨D1, 0, none⟩), .pointer (some ⟨D2, 0, none⟩), .pointer (some ⟨D3, 0, none⟩), .pointer (some ⟨D4, 0, none⟩), .pointer (some ⟨D5, 0, none⟩)] w (fun e w' => e = .returned (.bool (badF ⟨(l1, h1), (l2, h2), (l3, h3), (l4, h4), (l5, h5), wo⟩ c off p (v0, v1) 3)) ∧ Below w.heap.size w w') := by
 obtain ⟨b', o', hbo, hbl, hcl⟩ := hI.at (by simp)
 cases hbo
 refine calls_fr Try.func81 Try.ntmps81 rfl rfl fun g hg => ?_
 have k0 : g 0 = .slice (some ⟨b, o, none⟩) (2) (cc) := hg 0
 have k1 : g 1 = .pointer (some ⟨D1, 0, none⟩) := hg 1
 have k2 : g 2 = .pointer (some ⟨D2, 0, none⟩) := hg 2
 have k3 : g 3 = .pointer (some ⟨D3, 0, none⟩) := hg 3
 have k4 : g 4 = .pointer (some ⟨D4, 0, none⟩) := hg 4
 have k5 : g 5 = .pointer (some ⟨D5, 0, none⟩) := hg 5
 clear hg
 have fB0 : Below w.heap.size w w := Below.refl _ _
 have lt_D1 := lt_of_blk u1
 have lt_D2 := lt_of_blk u2
 have lt_D3 := lt_of_blk u3
 have lt_D4 := lt_of_blk u4
 have lt_D5 := lt_of_blk u5
 refine wp_seq_k fun K1 hK1 => ?_
 refine region_dk 1 [(7, 0)] [[]] (rel [is (.bool false)])
  ⟨is_k, trivial⟩
  ⟨fun f s W i j k l m a => opv rfl rfl (by simp [go_sem]) rfl, trivial⟩ ?_
 intro f1 s1 W1 hB1 g1 hg1
 have fB1 := hB1.f fB0
 have z1 := hB1.below.size
 have b1_0 := hB1.b u1
 have b1_1 := hB1.b u2
 have b1_2 := hB1.b u3
 have b1_3 := hB1.b u4
 have b1_4 := hB1.b u5
 refine hK1 _ _ ?_
 have k1_0 := kt hg1 0 k0
 have k1_1 := kt hg1 1 k1
 have k1_2 := kt hg1 2 k2
 have k1_3 := kt hg1 3 k3
 have k1_4 := kt hg1 4 k4
 have k1_5 := kt hg1 5 k5
 have k1_7 := kt hg1 7 (hB1.is 0)
 refine wp_seq_k fun K2 hK2 => ?_
 refine region_dk 14 [(8, 0), (9, 1), (10, 2), (11, 3), (12, 4), (13, 5), (14, 6), (15, 7), (16, 8), (17, 9), (18, 10), (19, 11), (20, 12), (7, 13)] [[], [0], [0, 1], [0, 1, 2], [0, 1, 2], [0, 1, 2], [0, 1, 2, 5], [0, 1, 2, 4, 5, 6], [0, 1, 2, 4, 5, 6, 7], [0, 1, 2], [0, 1, 2, 3, 4, 5, 6, 7, 8, 9], [0, 1, 2, 3, 4, 5, 6, 7, 8, 9, 10], [0, 1, 2, 3, 4, 5, 6, 7, 8, 9, 10, 11], [0, 1, 2, 3, 4, 5, 6, 7, 8, 9, 10, 11, 12]] (rel [is (.int .i64 3),
   is (.bool false),
   is (.bool false),
   gd (false) true (fun _ _ _ => True),
   gd (false) true (fun _ _ _ => True),
   gd (false) true (fun _ _ _ => True),
   gd (false) true (fun _ _ _ => True),
   gd (false) true (fun _ _ _ => True),
   gd (false) true (fun _ _ _ => True),
   gd (false) true (fun _ _ _ => True),
   gd (false) true (fun _ _ _ => True),
   gd (false) true (fun _ _ _ => True),
   is (.bool false),
   is (.bool false)])
  ⟨is_k, is_k, is_k, gdt_k, gdt_k, gdt_k, gdt_k, gdt_k, gdt_k, gdt_k, gdt_k, gdt_k, is_k, is_k, trivial⟩
  ⟨fun f s W i j k l m a => opv rfl rfl (by simp [go_sem, a.e 1 k1_1, cb b1_0 i 0]) rfl,
  fun f s W i j k l m a => opv rfl rfl (by simp [go_sem, a.e 8 (j 0 rfl)]) rfl,
  fun f s W i j k l m a => opv rfl rfl (by simp [go_sem, a.e 9 (j 1 rfl)]) rfl,
  fun f s W i j k l m a => gno (a.says (d := 10) rfl rfl (j 2 rfl)),
  fun f s W i j k l m a => gno (a.says (d := 10) rfl rfl (j 2 rfl)),
  fun f s W i j k l m a => gno (a.says (d := 10) rfl rfl (j 2 rfl)),
  fun f s W i j k l m a => gno (a.says (d := 10) rfl rfl (j 2 rfl)),
  fun f s W i j k l m a => gno (a.says (d := 10) rfl rfl (j 2 rfl)),
  fun f s W i j k l m a => gno (a.says (d := 10) rfl rfl (j 2 rfl)),
  fun f s W i j k l m a => gno (a.says (d := 10) rfl rfl (j 2 rfl)),
  fun f s W i j k l m a => gno (a.says (d := 10) rfl rfl (j 2 rfl)),
  fun f s W i j k l m a => gno (a.says (d := 10) rfl rfl (j 2 rfl)),
  fun f s W i j k l m a => opk (c := false) rfl rfl (fun _ => by simp [go_sem, a.e 10 (j 2 rfl)]) (fun h => absurd h (by decide)),
  fun f s W i j k l m a => opv rfl rfl (by simp [go_sem, a.e 20 (j 12 rfl)]) rfl, trivial⟩ ?_
 intro f2 s2 W2 hB2 g2 hg2
 have fB2 := hB2.f fB1
 have z2 := hB2.below.size
 have b2_0 := hB2.b b1_0
 have b2_1 := hB2.b b1_1
 have b2_2 := hB2.b b1_2
 have b2_3 := hB2.b b1_3
 have b2_4 := hB2.b b1_4
 refine hK2 _ _ ?_
 have k2_7 := kt hg2 7 (hB2.is 13)
 refine wp_ret ?_
 refine leave_one (N := 21) (v := .bool false) (.inr rfl) Try.results81 rfl k2_7 ?_
 exact ⟨rfl, fB2⟩
end Go.Proofs.Ythnediamopehfaa
