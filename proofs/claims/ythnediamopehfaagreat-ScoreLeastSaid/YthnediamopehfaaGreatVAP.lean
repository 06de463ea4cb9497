/- Part of the proof: what the claim leans on. -/
import Derived.Test.YthnediamopehfaaGreatVAN
import Derived.Test.YthnediamopehfaaGreatVAO
set_option maxHeartbeats 400000
set_option maxRecDepth 100000
set_option linter.unusedSimpArgs false
set_option linter.unusedVariables false
namespace Go.Proofs.YthnediamopehfaaGreat
open Go.RowKit
def badF (w : Wi) (c off p : Int) (u : Int × Int) (i : Nat) : Bool :=
  if i = 0 then !(someB 0 u.2 off fun x => isInOf (p - 2 * x) 1 c (targetOf w 6)) else if i = 1 then !(someB 0 u.1 off fun x => isInOf (p - 2 * x) 1 c (targetOf w 5)) else false
theorem closes3_0 (x0 x1 x2 x3 x4 x5 x6 : Value) (l1 h1 l2 h2 l3 h3 l4 h4 l5 h5 : Int) (wo : Bool) (hw : WishIn ⟨(l1, h1), (l2, h2), (l3, h3), (l4, h4), (l5, h5), wo⟩) (p c off v0 v1 : Int) (b o cc : Nat) (D1 D2 D3 D4 D5 : Nat) (w : World) (hI : Ii w (some ⟨b, o, none⟩) 2 cc [v0, v1]) (hv0 : 0 ≤ v0) (hv0' : v0 ≤ 3000) (hv1 : 0 ≤ v1) (hv1' : v1 ≤ 3000) (hp1 : 0 ≤ p) (hp2 : p ≤ 3000) (hc1 : 0 ≤ c) (hc2 : c ≤ 100000) (ho1 : 0 ≤ off) (ho2 : off ≤ 5) (u1 : w.heap[D1]? = some (.cells #[.int .i64 0] 3 (0, 0))) (u2 : w.heap[D2]? = some (.cells #[x0, x1, x2, x3, x4, x5, x6, .int .i64 off] 127 (0, 0))) (u3 : w.heap[D3]? = some (.cells #[.int .i64 p] 3 (0, 0))) (u4 : w.heap[D4]? = some (.cells #[.int .i64 c] 3 (0, 0))) (u5 : w.heap[D5]? = some (.cells #[.int .i64 l1, .int .i64 h1, .int .i64 l2, .int .i64 h2, .int .i64 l3, .int .i64 h3, .int .i64 l4, .int .i64 h4, .int .i64 l5, .int .i64 h5, .bool wo] 43 (0, 0))) :
  Calls Tryz.prog 100 #[.slice (some ⟨b, o, none⟩) 2 cc, .pointer (some ⟨D1, 0, none⟩), .pointer (some ⟨D2, 0, none⟩), .pointer (some ⟨D3, 0, none⟩), .pointer (some ⟨D4, 0, none⟩), .pointer (some ⟨D5, 0, none⟩)] w (fun e w' => e = .returned (.bool (badF ⟨(l1, h1), (l2, h2), (l3, h3), (l4, h4), (l5, h5), wo⟩ c off p (v0, v1) 0)) ∧ Below w.heap.size w w') := by
 obtain ⟨b', o', hbo, hbl, hcl⟩ := hI.at (by simp)
 cases hbo
 refine calls_fr Tryz.func100 Tryz.ntmps100 rfl rfl fun g hg => ?_
 have k0 : g 0 = .slice (some ⟨b, o, none⟩) 2 cc := hg 0
 have k1 : g 1 = .pointer (some ⟨D1, 0, none⟩) := hg 1
 have k2 : g 2 = .pointer (some ⟨D2, 0, none⟩) := hg 2
 have k3 : g 3 = .pointer (some ⟨D3, 0, none⟩) := hg 3
 have k4 : g 4 = .pointer (some ⟨D4, 0, none⟩) := hg 4
 have k5 : g 5 = .pointer (some ⟨D5, 0, none⟩) := hg 5
 clear hg
 have fB0 : Below w.heap.size w w := Below.refl _ _
 have lt_D1 := ltb u1
 have lt_D2 := ltb u2
 have lt_D3 := ltb u3
 have lt_D4 := ltb u4
 have lt_D5 := ltb u5
 refine rw_ 1 [(7, 0)] [[]] (rel [iB false])
  ⟨fun f s W i j k l m a => opz, trivial⟩ ?_
 intro f1 s1 W1 hB1 g1 hg1 z1
 have fB1 := hB1.f fB0
 have b1_0 := hB1.b u1
 have b1_1 := hB1.b u2
 have b1_2 := hB1.b u3
 have b1_3 := hB1.b u4
 have b1_4 := hB1.b u5
 have k1_0 := kt hg1 0 k0
 have k1_1 := kt hg1 1 k1
 have k1_2 := kt hg1 2 k2
 have k1_3 := kt hg1 3 k3
 have k1_4 := kt hg1 4 k4
 have k1_5 := kt hg1 5 k5
 refine rw_ 14 [(8, 0), (9, 1), (10, 2), (11, 3), (12, 4), (13, 5), (14, 6), (15, 7), (16, 8), (17, 9), (18, 10), (19, 11), (20, 12), (7, 13)] [[], [0], [1], [2], [2], [2], [2, 5], [2, 4, 6], [2, 7], [2], [2, 3, 8, 9], [2, 10], [2, 11], [12]] (rel [iI 0, iB true, iB true, gd (true) true (is (.agg #[x0, x1, x2, x3, x4, x5, x6, .int .i64 off])), gd (true) true (is (.slice (some ⟨b, o, none⟩) 2 cc)), gd (true) true (iI 0), gd (true) true (iI 1), gd (true) true (is (.pointer (some ⟨b, o + 1, none⟩))), gd (true) true (iI v1), gd (true) true (is (.func (.func 101) #[] #[.pointer (some ⟨D3, 0, none⟩), .pointer (some ⟨D4, 0, none⟩), .pointer (some ⟨D5, 0, none⟩), .pointer (some ⟨D1, 0, none⟩)])), gd (true) true (iB (someB 0 v1 off (fun x => isInOf (p - 2 * x) 1 c (targetOf ⟨(l1, h1), (l2, h2), (l3, h3), (l4, h4), (l5, h5), wo⟩ (6 - 0))))), gd (true) true (iB (!(someB 0 v1 off (fun x => isInOf (p - 2 * x) 1 c (targetOf ⟨(l1, h1), (l2, h2), (l3, h3), (l4, h4), (l5, h5), wo⟩ (6 - 0)))))), iB (!(someB 0 v1 off (fun x => isInOf (p - 2 * x) 1 c (targetOf ⟨(l1, h1), (l2, h2), (l3, h3), (l4, h4), (l5, h5), wo⟩ (6 - 0))))), iB (!(someB 0 v1 off (fun x => isInOf (p - 2 * x) 1 c (targetOf ⟨(l1, h1), (l2, h2), (l3, h3), (l4, h4), (l5, h5), wo⟩ (6 - 0)))))])
  ⟨fun f s W i j k l m a => opv rfl rfl (by simp [go_sem, a.e 1 k1_1, cb b1_0 i 0]) rfl,
  fun f s W i j k l m a => opv rfl rfl (by simp [go_sem, a.e 8 (j 0 rfl)]) rfl,
  fun f s W i j k l m a => opm (a.v 9 (j 1 rfl)),
  fun f s W i j k l m a => gdo rfl rfl (a.says (d := 10) rfl rfl (j 2 rfl)) fun hgd0 => gv (by simp [go_sem, a.e 2 k1_2, cb b1_1 i 0, cb b1_1 i 1, cb b1_1 i 2, cb b1_1 i 3, cb b1_1 i 4, cb b1_1 i 5, cb b1_1 i 6, cb b1_1 i 7]) rfl,
  fun f s W i j k l m a => gdo rfl rfl (a.says (d := 10) rfl rfl (j 2 rfl)) fun hgd0 => gv (by simp [go_sem, a.e 0 k1_0]) rfl,
  fun f s W i j k l m a => gdo rfl rfl (a.says (d := 10) rfl rfl (j 2 rfl)) fun hgd0 => gv (by simp [go_sem, a.e 1 k1_1, cb b1_0 i 0]) rfl,
  fun f s W i j k l m a => gdo rfl rfl (a.says (d := 10) rfl rfl (j 2 rfl)) fun hgd0 => gv (by simp [go_sem, a.e 13 ((j 5 rfl).1 hgd0), IntWalk.i64_in (1) (by omega)]) rfl,
  fun f s W i j k l m a => gdo rfl rfl (a.says (d := 10) rfl rfl (j 2 rfl)) fun hgd0 => gv (by simp [go_sem, a.e 12 ((j 4 rfl).1 hgd0), a.e 14 ((j 6 rfl).1 hgd0)]) rfl,
  fun f s W i j k l m a => gdo rfl rfl (a.says (d := 10) rfl rfl (j 2 rfl)) fun hgd0 => by have n := bwt fB1 i; have uu : W.cell? ⟨b, o + 1, none⟩ = some (.int .i64 v1) := (n.cell (p := ⟨b, o + 1, none⟩) hbl).trans (hcl 1 (by simp)); exact gv (by simp [go_sem, a.e 15 ((j 7 rfl).1 hgd0), uu]) rfl,
  fun f s W i j k l m a => gdo rfl rfl (a.says (d := 10) rfl rfl (j 2 rfl)) fun hgd0 => gv (by simp [go_sem, a.e 3 k1_3, a.e 4 k1_4, a.e 5 k1_5, a.e 1 k1_1]) rfl,
  fun f s W i j k l m a => gdo rfl rfl (a.says (d := 10) rfl rfl (j 2 rfl)) fun hgd0 => gc (args := #[.agg #[x0, x1, x2, x3, x4, x5, x6, .int .i64 off], .int .i64 0, .int .i64 v1, .func (.func 101) #[] #[.pointer (some ⟨D3, 0, none⟩), .pointer (some ⟨D4, 0, none⟩), .pointer (some ⟨D5, 0, none⟩), .pointer (some ⟨D1, 0, none⟩)]]) (by simp [go_sem, a.e 11 ((j 3 rfl).1 hgd0), a.e 16 ((j 8 rfl).1 hgd0), a.e 17 ((j 9 rfl).1 hgd0)]) (some_any x0 x1 x2 x3 x4 x5 x6 off 0 v1 101 #[.pointer (some ⟨D3, 0, none⟩), .pointer (some ⟨D4, 0, none⟩), .pointer (some ⟨D5, 0, none⟩), .pointer (some ⟨D1, 0, none⟩)] (fun x => isInOf (p - 2 * x) 1 c (targetOf ⟨(l1, h1), (l2, h2), (l3, h3), (l4, h4), (l5, h5), wo⟩ (6 - 0))) W (by omega) (by omega) (by omega) (by omega) (by omega) (by omega) (fun _ _ => by simp [go_sem]) (fun x y1 y2 W' hb' => closes4_any l1 h1 l2 h2 l3 h3 l4 h4 l5 h5 wo hw x p c 0 (by omega) D3 D4 D5 D1 W' hp1 hp2 (by unfold loOf at y1; omega) (by unfold hiOf at y2; omega) hc1 hc2 (bwb (bwb b1_2 i) hb') (bwb (bwb b1_3 i) hb') (bwb (bwb b1_4 i) hb') (bwb (bwb b1_0 i) hb'))),
  fun f s W i j k l m a => gdo rfl rfl (a.says (d := 10) rfl rfl (j 2 rfl)) fun hgd0 => gv (by simp [go_sem, a.e 18 ((j 10 rfl).1 hgd0)]) rfl,
  fun f s W i j k l m a => opk (c := true) rfl rfl (fun h => absurd h (by decide)) (fun _ => by simp [go_sem, a.e 10 (j 2 rfl), a.e 19 ((j 11 rfl).1 rfl)]),
  fun f s W i j k l m a => opm (a.v 20 (j 12 rfl)), trivial⟩ ?_
 intro f2 s2 W2 hB2 g2 hg2 z2
 have fB2 := hB2.f fB1
 have k2_7 := kt hg2 7 (hB2.is 13)
 refine wp_ret ?_
 refine leave_one (N := 21) (.inr rfl) Tryz.results100 rfl k2_7 ?_
 exact ⟨rfl, fB2⟩
theorem closes3_1 (x0 x1 x2 x3 x4 x5 x6 : Value) (l1 h1 l2 h2 l3 h3 l4 h4 l5 h5 : Int) (wo : Bool) (hw : WishIn ⟨(l1, h1), (l2, h2), (l3, h3), (l4, h4), (l5, h5), wo⟩) (p c off v0 v1 : Int) (b o cc : Nat) (D1 D2 D3 D4 D5 : Nat) (w : World) (hI : Ii w (some ⟨b, o, none⟩) 2 cc [v0, v1]) (hv0 : 0 ≤ v0) (hv0' : v0 ≤ 3000) (hv1 : 0 ≤ v1) (hv1' : v1 ≤ 3000) (hp1 : 0 ≤ p) (hp2 : p ≤ 3000) (hc1 : 0 ≤ c) (hc2 : c ≤ 100000) (ho1 : 0 ≤ off) (ho2 : off ≤ 5) (u1 : w.heap[D1]? = some (.cells #[.int .i64 1] 3 (0, 0))) (u2 : w.heap[D2]? = some (.cells #[x0, x1, x2, x3, x4, x5, x6, .int .i64 off] 127 (0, 0))) (u3 : w.heap[D3]? = some (.cells #[.int .i64 p] 3 (0, 0))) (u4 : w.heap[D4]? = some (.cells #[.int .i64 c] 3 (0, 0))) (u5 : w.heap[D5]? = some (.cells #[.int .i64 l1, .int .i64 h1, .int .i64 l2, .int .i64 h2, .int .i64 l3, .int .i64 h3, .int .i64 l4, .int .i64 h4, .int .i64 l5, .int .i64 h5, .bool wo] 43 (0, 0))) :
  Calls Tryz.prog 100 #[.slice (some ⟨b, o, none⟩) 2 cc, .pointer (some ⟨D1, 0, none⟩), .pointer (some ⟨D2, 0, none⟩), .pointer (some ⟨D3, 0, none⟩), .pointer (some ⟨D4, 0, none⟩), .pointer (some ⟨D5, 0, none⟩)] w (fun e w' => e = .returned (.bool (badF ⟨(l1, h1), (l2, h2), (l3, h3), (l4, h4), (l5, h5), wo⟩ c off p (v0, v1) 1)) ∧ Below w.heap.size w w') := by
 obtain ⟨b', o', hbo, hbl, hcl⟩ := hI.at (by simp)
 cases hbo
 refine calls_fr Tryz.func100 Tryz.ntmps100 rfl rfl fun g hg => ?_
 have k0 : g 0 = .slice (some ⟨b, o, none⟩) 2 cc := hg 0
 have k1 : g 1 = .pointer (some ⟨D1, 0, none⟩) := hg 1
 have k2 : g 2 = .pointer (some ⟨D2, 0, none⟩) := hg 2
 have k3 : g 3 = .pointer (some ⟨D3, 0, none⟩) := hg 3
 have k4 : g 4 = .pointer (some ⟨D4, 0, none⟩) := hg 4
 have k5 : g 5 = .pointer (some ⟨D5, 0, none⟩) := hg 5
 clear hg
 have fB0 : Below w.heap.size w w := Below.refl _ _
 have lt_D1 := ltb u1
 have lt_D2 := ltb u2
 have lt_D3 := ltb u3
 have lt_D4 := ltb u4
 have lt_D5 := ltb u5
 refine rw_ 1 [(7, 0)] [[]] (rel [iB false])
  ⟨fun f s W i j k l m a => opz, trivial⟩ ?_
 intro f1 s1 W1 hB1 g1 hg1 z1
 have fB1 := hB1.f fB0
 have b1_0 := hB1.b u1
 have b1_1 := hB1.b u2
 have b1_2 := hB1.b u3
 have b1_3 := hB1.b u4
 have b1_4 := hB1.b u5
 have k1_0 := kt hg1 0 k0
 have k1_1 := kt hg1 1 k1
 have k1_2 := kt hg1 2 k2
 have k1_3 := kt hg1 3 k3
 have k1_4 := kt hg1 4 k4
 have k1_5 := kt hg1 5 k5
 refine rw_ 14 [(8, 0), (9, 1), (10, 2), (11, 3), (12, 4), (13, 5), (14, 6), (15, 7), (16, 8), (17, 9), (18, 10), (19, 11), (20, 12), (7, 13)] [[], [0], [1], [2], [2], [2], [2, 5], [2, 4, 6], [2, 7], [2], [2, 3, 8, 9], [2, 10], [2, 11], [12]] (rel [iI 1, iB true, iB true, gd (true) true (is (.agg #[x0, x1, x2, x3, x4, x5, x6, .int .i64 off])), gd (true) true (is (.slice (some ⟨b, o, none⟩) 2 cc)), gd (true) true (iI 1), gd (true) true (iI 0), gd (true) true (is (.pointer (some ⟨b, o, none⟩))), gd (true) true (iI v0), gd (true) true (is (.func (.func 101) #[] #[.pointer (some ⟨D3, 0, none⟩), .pointer (some ⟨D4, 0, none⟩), .pointer (some ⟨D5, 0, none⟩), .pointer (some ⟨D1, 0, none⟩)])), gd (true) true (iB (someB 0 v0 off (fun x => isInOf (p - 2 * x) 1 c (targetOf ⟨(l1, h1), (l2, h2), (l3, h3), (l4, h4), (l5, h5), wo⟩ (6 - 1))))), gd (true) true (iB (!(someB 0 v0 off (fun x => isInOf (p - 2 * x) 1 c (targetOf ⟨(l1, h1), (l2, h2), (l3, h3), (l4, h4), (l5, h5), wo⟩ (6 - 1)))))), iB (!(someB 0 v0 off (fun x => isInOf (p - 2 * x) 1 c (targetOf ⟨(l1, h1), (l2, h2), (l3, h3), (l4, h4), (l5, h5), wo⟩ (6 - 1))))), iB (!(someB 0 v0 off (fun x => isInOf (p - 2 * x) 1 c (targetOf ⟨(l1, h1), (l2, h2), (l3, h3), (l4, h4), (l5, h5), wo⟩ (6 - 1)))))])
  ⟨fun f s W i j k l m a => opv rfl rfl (by simp [go_sem, a.e 1 k1_1, cb b1_0 i 0]) rfl,
  fun f s W i j k l m a => opv rfl rfl (by simp [go_sem, a.e 8 (j 0 rfl)]) rfl,
  fun f s W i j k l m a => opm (a.v 9 (j 1 rfl)),
  fun f s W i j k l m a => gdo rfl rfl (a.says (d := 10) rfl rfl (j 2 rfl)) fun hgd0 => gv (by simp [go_sem, a.e 2 k1_2, cb b1_1 i 0, cb b1_1 i 1, cb b1_1 i 2, cb b1_1 i 3, cb b1_1 i 4, cb b1_1 i 5, cb b1_1 i 6, cb b1_1 i 7]) rfl,
  fun f s W i j k l m a => gdo rfl rfl (a.says (d := 10) rfl rfl (j 2 rfl)) fun hgd0 => gv (by simp [go_sem, a.e 0 k1_0]) rfl,
  fun f s W i j k l m a => gdo rfl rfl (a.says (d := 10) rfl rfl (j 2 rfl)) fun hgd0 => gv (by simp [go_sem, a.e 1 k1_1, cb b1_0 i 0]) rfl,
  fun f s W i j k l m a => gdo rfl rfl (a.says (d := 10) rfl rfl (j 2 rfl)) fun hgd0 => gv (by simp [go_sem, a.e 13 ((j 5 rfl).1 hgd0), IntWalk.i64_in (0) (by omega)]) rfl,
  fun f s W i j k l m a => gdo rfl rfl (a.says (d := 10) rfl rfl (j 2 rfl)) fun hgd0 => gv (by simp [go_sem, a.e 12 ((j 4 rfl).1 hgd0), a.e 14 ((j 6 rfl).1 hgd0)]) rfl,
  fun f s W i j k l m a => gdo rfl rfl (a.says (d := 10) rfl rfl (j 2 rfl)) fun hgd0 => by have n := bwt fB1 i; have uu : W.cell? ⟨b, o, none⟩ = some (.int .i64 v0) := (n.cell (p := ⟨b, o + 0, none⟩) hbl).trans (hcl 0 (by simp)); exact gv (by simp [go_sem, a.e 15 ((j 7 rfl).1 hgd0), uu]) rfl,
  fun f s W i j k l m a => gdo rfl rfl (a.says (d := 10) rfl rfl (j 2 rfl)) fun hgd0 => gv (by simp [go_sem, a.e 3 k1_3, a.e 4 k1_4, a.e 5 k1_5, a.e 1 k1_1]) rfl,
  fun f s W i j k l m a => gdo rfl rfl (a.says (d := 10) rfl rfl (j 2 rfl)) fun hgd0 => gc (args := #[.agg #[x0, x1, x2, x3, x4, x5, x6, .int .i64 off], .int .i64 0, .int .i64 v0, .func (.func 101) #[] #[.pointer (some ⟨D3, 0, none⟩), .pointer (some ⟨D4, 0, none⟩), .pointer (some ⟨D5, 0, none⟩), .pointer (some ⟨D1, 0, none⟩)]]) (by simp [go_sem, a.e 11 ((j 3 rfl).1 hgd0), a.e 16 ((j 8 rfl).1 hgd0), a.e 17 ((j 9 rfl).1 hgd0)]) (some_any x0 x1 x2 x3 x4 x5 x6 off 0 v0 101 #[.pointer (some ⟨D3, 0, none⟩), .pointer (some ⟨D4, 0, none⟩), .pointer (some ⟨D5, 0, none⟩), .pointer (some ⟨D1, 0, none⟩)] (fun x => isInOf (p - 2 * x) 1 c (targetOf ⟨(l1, h1), (l2, h2), (l3, h3), (l4, h4), (l5, h5), wo⟩ (6 - 1))) W (by omega) (by omega) (by omega) (by omega) (by omega) (by omega) (fun _ _ => by simp [go_sem]) (fun x y1 y2 W' hb' => closes4_any l1 h1 l2 h2 l3 h3 l4 h4 l5 h5 wo hw x p c 1 (by omega) D3 D4 D5 D1 W' hp1 hp2 (by unfold loOf at y1; omega) (by unfold hiOf at y2; omega) hc1 hc2 (bwb (bwb b1_2 i) hb') (bwb (bwb b1_3 i) hb') (bwb (bwb b1_4 i) hb') (bwb (bwb b1_0 i) hb'))),
  fun f s W i j k l m a => gdo rfl rfl (a.says (d := 10) rfl rfl (j 2 rfl)) fun hgd0 => gv (by simp [go_sem, a.e 18 ((j 10 rfl).1 hgd0)]) rfl,
  fun f s W i j k l m a => opk (c := true) rfl rfl (fun h => absurd h (by decide)) (fun _ => by simp [go_sem, a.e 10 (j 2 rfl), a.e 19 ((j 11 rfl).1 rfl)]),
  fun f s W i j k l m a => opm (a.v 20 (j 12 rfl)), trivial⟩ ?_
 intro f2 s2 W2 hB2 g2 hg2 z2
 have fB2 := hB2.f fB1
 have k2_7 := kt hg2 7 (hB2.is 13)
 refine wp_ret ?_
 refine leave_one (N := 21) (.inr rfl) Tryz.results100 rfl k2_7 ?_
 exact ⟨rfl, fB2⟩
theorem closes3_2 (x0 x1 x2 x3 x4 x5 x6 : Value) (l1 h1 l2 h2 l3 h3 l4 h4 l5 h5 : Int) (wo : Bool) (hw : WishIn ⟨(l1, h1), (l2, h2), (l3, h3), (l4, h4), (l5, h5), wo⟩) (p c off v0 v1 : Int) (b o cc : Nat) (D1 D2 D3 D4 D5 : Nat) (w : World) (hI : Ii w (some ⟨b, o, none⟩) 2 cc [v0, v1]) (hv0 : 0 ≤ v0) (hv0' : v0 ≤ 3000) (hv1 : 0 ≤ v1) (hv1' : v1 ≤ 3000) (hp1 : 0 ≤ p) (hp2 : p ≤ 3000) (hc1 : 0 ≤ c) (hc2 : c ≤ 100000) (ho1 : 0 ≤ off) (ho2 : off ≤ 5) (u1 : w.heap[D1]? = some (.cells #[.int .i64 2] 3 (0, 0))) (u2 : w.heap[D2]? = some (.cells #[x0, x1, x2, x3, x4, x5, x6, .int .i64 off] 127 (0, 0))) (u3 : w.heap[D3]? = some (.cells #[.int .i64 p] 3 (0, 0))) (u4 : w.heap[D4]? = some (.cells #[.int .i64 c] 3 (0, 0))) (u5 : w.heap[D5]? = some (.cells #[.int .i64 l1, .int .i64 h1, .int .i64 l2, .int .i64 h2, .int .i64 l3, .int .i64 h3, .int .i64 l4, .int .i64 h4, .int .i64 l5, .int .i64 h5, .bool wo] 43 (0, 0))) :
  Calls Tryz.prog 100 #[.slice (some ⟨b, o, none⟩) 2 cc, .pointer (some ⟨D1, 0, none⟩), .pointer (some ⟨D2, 0, none⟩), .pointer (some ⟨D3, 0, none⟩), .pointer (some ⟨D4, 0, none⟩), .pointer (some ⟨D5, 0, none⟩)] w (fun e w' => e = .returned (.bool (badF ⟨(l1, h1), (l2, h2), (l3, h3), (l4, h4), (l5, h5), wo⟩ c off p (v0, v1) 2)) ∧ Below w.heap.size w w') := by
 obtain ⟨b', o', hbo, hbl, hcl⟩ := hI.at (by simp)
 cases hbo
 refine calls_fr Tryz.func100 Tryz.ntmps100 rfl rfl fun g hg => ?_
 have k0 : g 0 = .slice (some ⟨b, o, none⟩) 2 cc := hg 0
 have k1 : g 1 = .pointer (some ⟨D1, 0, none⟩) := hg 1
 have k2 : g 2 = .pointer (some ⟨D2, 0, none⟩) := hg 2
 have k3 : g 3 = .pointer (some ⟨D3, 0, none⟩) := hg 3
 have k4 : g 4 = .pointer (some ⟨D4, 0, none⟩) := hg 4
 have k5 : g 5 = .pointer (some ⟨D5, 0, none⟩) := hg 5
 clear hg
 have fB0 : Below w.heap.size w w := Below.refl _ _
 have lt_D1 := ltb u1
 have lt_D2 := ltb u2
 have lt_D3 := ltb u3
 have lt_D4 := ltb u4
 have lt_D5 := ltb u5
 refine rw_ 1 [(7, 0)] [[]] (rel [iB false])
  ⟨fun f s W i j k l m a => opz, trivial⟩ ?_
 intro f1 s1 W1 hB1 g1 hg1 z1
 have b1_0 := hB1.b u1
 have k1_1 := kt hg1 1 k1
 refine rx 14 [(8, 0), (9, 1), (10, 2), (11, 3), (12, 4), (13, 5), (14, 6), (15, 7), (16, 8), (17, 9), (18, 10), (19, 11), (20, 12), (7, 13)] [[], [0], [1], [2], [2], [2], [2], [2], [2], [2], [2], [2], [2], [12]] (rel [iI 2, iB false, iB false, gd (false) true (fun _ _ _ => True), gd (false) true (fun _ _ _ => True), gd (false) true (fun _ _ _ => True), gd (false) true (fun _ _ _ => True), gd (false) true (fun _ _ _ => True), gd (false) true (fun _ _ _ => True), gd (false) true (fun _ _ _ => True), gd (false) true (fun _ _ _ => True), gd (false) true (fun _ _ _ => True), iB false, iB false])
  ⟨is_k, is_k, is_k, gdt_k, gdt_k, gdt_k, gdt_k, gdt_k, gdt_k, gdt_k, gdt_k, gdt_k, is_k, is_k, trivial⟩
  ⟨fun f s W i j k l m a => opv rfl rfl (by simp [go_sem, a.e 1 k1_1, cb b1_0 i 0]) rfl,
  fun f s W i j k l m a => opv rfl rfl (by simp [go_sem, a.e 8 (j 0 rfl)]) rfl,
  fun f s W i j k l m a => opm (a.v 9 (j 1 rfl)),
  fun f s W i j k l m a => gno (a.says (d := 10) rfl rfl (j 2 rfl)),
  fun f s W i j k l m a => gno (a.says (d := 10) rfl rfl (j 2 rfl)),
  fun f s W i j k l m a => gno (a.says (d := 10) rfl rfl (j 2 rfl)),
  fun f s W i j k l m a => gno (a.says (d := 10) rfl rfl (j 2 rfl)),
  fun f s W i j k l m a => gno (a.says (d := 10) rfl rfl (j 2 rfl)),
  fun f s W i j k l m a => gno (a.says (d := 10) rfl rfl (j 2 rfl)),
  fun f s W i j k l m a => gno (a.says (d := 10) rfl rfl (j 2 rfl)),
  fun f s W i j k l m a => gno (a.says (d := 10) rfl rfl (j 2 rfl)),
  fun f s W i j k l m a => gno (a.says (d := 10) rfl rfl (j 2 rfl)),
  fun f s W i j k l m a => opk (c := false) rfl rfl (fun _ => by simp [go_sem, a.e 10 (j 2 rfl)]) (fun h => absurd h (by decide)),
  fun f s W i j k l m a => opm (a.v 20 (j 12 rfl)), trivial⟩ ?_
 intro f2 s2 W2 hB2 g2 hg2 z2
 have fB2 := hB2.f (hB1.f fB0)
 have k2_7 := kt hg2 7 (hB2.is 13)
 refine wp_ret ?_
 refine leave_one (N := 21) (.inr rfl) Tryz.results100 rfl k2_7 ?_
 exact ⟨rfl, fB2⟩
theorem closes3_3 (x0 x1 x2 x3 x4 x5 x6 : Value) (l1 h1 l2 h2 l3 h3 l4 h4 l5 h5 : Int) (wo : Bool) (hw : WishIn ⟨(l1, h1), (l2, h2), (l3, h3), (l4, h4), (l5, h5), wo⟩) (p c off v0 v1 : Int) (b o cc : Nat) (D1 D2 D3 D4 D5 : Nat) (w : World) (hI : Ii w (some ⟨b, o, none⟩) 2 cc [v0, v1]) (hv0 : 0 ≤ v0) (hv0' : v0 ≤ 3000) (hv1 : 0 ≤ v1) (hv1' : v1 ≤ 3000) (hp1 : 0 ≤ p) (hp2 : p ≤ 3000) (hc1 : 0 ≤ c) (hc2 : c ≤ 100000) (ho1 : 0 ≤ off) (ho2 : off ≤ 5) (u1 : w.heap[D1]? = some (.cells #[.int .i64 3] 3 (0, 0))) (u2 : w.heap[D2]? = some (.cells #[x0, x1, x2, x3, x4, x5, x6, .int .i64 off] 127 (0, 0))) (u3 : w.heap[D3]? = some (.cells #[.int .i64 p] 3 (0, 0))) (u4 : w.heap[D4]? = some (.cells #[.int .i64 c] 3 (0, 0))) (u5 : w.heap[D5]? = some (.cells #[.int .i64 l1, .int .i64 h1, .int .i64 l2, .int .i64 h2, .int .i64 l3, .int .i64 h3, .int .i64 l4, .int .i64 h4, .int .i64 l5, .int .i64 h5, .bool wo] 43 (0, 0))) :
  Calls Tryz.prog 100 #[.slice (some ⟨b, o, none⟩) 2 cc, .pointer (some ⟨D1, 0, none⟩), .pointer (some ⟨D2, 0, none⟩), .pointer (some ⟨D3, 0, none⟩), .pointer (some ⟨D4, 0, none⟩), .pointer (some ⟨D5, 0, none⟩)] w (fun e w' => e = .returned (.bool (badF ⟨(l1, h1), (l2, h2), (l3, h3), (l4, h4), (l5, h5), wo⟩ c off p (v0, v1) 3)) ∧ Below w.heap.size w w') := by
 obtain ⟨b', o', hbo, hbl, hcl⟩ := hI.at (by simp)
 cases hbo
 refine calls_fr Tryz.func100 Tryz.ntmps100 rfl rfl fun g hg => ?_
 have k0 : g 0 = .slice (some ⟨b, o, none⟩) 2 cc := hg 0
 have k1 : g 1 = .pointer (some ⟨D1, 0, none⟩) := hg 1
 have k2 : g 2 = .pointer (some ⟨D2, 0, none⟩) := hg 2
 have k3 : g 3 = .pointer (some ⟨D3, 0, none⟩) := hg 3
 have k4 : g 4 = .pointer (some ⟨D4, 0, none⟩) := hg 4
 have k5 : g 5 = .pointer (some ⟨D5, 0, none⟩) := hg 5
 clear hg
 have fB0 : Below w.heap.size w w := Below.refl _ _
 have lt_D1 := ltb u1
 have lt_D2 := ltb u2
 have lt_D3 := ltb u3
 have lt_D4 := ltb u4
 have lt_D5 := ltb u5
 refine rw_ 1 [(7, 0)] [[]] (rel [iB false])
  ⟨fun f s W i j k l m a => opz, trivial⟩ ?_
 intro f1 s1 W1 hB1 g1 hg1 z1
 have b1_0 := hB1.b u1
 have k1_1 := kt hg1 1 k1
 refine rx 14 [(8, 0), (9, 1), (10, 2), (11, 3), (12, 4), (13, 5), (14, 6), (15, 7), (16, 8), (17, 9), (18, 10), (19, 11), (20, 12), (7, 13)] [[], [0], [1], [2], [2], [2], [2], [2], [2], [2], [2], [2], [2], [12]] (rel [iI 3, iB false, iB false, gd (false) true (fun _ _ _ => True), gd (false) true (fun _ _ _ => True), gd (false) true (fun _ _ _ => True), gd (false) true (fun _ _ _ => True), gd (false) true (fun _ _ _ => True), gd (false) true (fun _ _ _ => True), gd (false) true (fun _ _ _ => True), gd (false) true (fun _ _ _ => True), gd (false) true (fun _ _ _ => True), iB false, iB false])
  ⟨is_k, is_k, is_k, gdt_k, gdt_k, gdt_k, gdt_k, gdt_k, gdt_k, gdt_k, gdt_k, gdt_k, is_k, is_k, trivial⟩
  ⟨fun f s W i j k l m a => opv rfl rfl (by simp [go_sem, a.e 1 k1_1, cb b1_0 i 0]) rfl,
  fun f s W i j k l m a => opv rfl rfl (by simp [go_sem, a.e 8 (j 0 rfl)]) rfl,
  fun f s W i j k l m a => opm (a.v 9 (j 1 rfl)),
  fun f s W i j k l m a => gno (a.says (d := 10) rfl rfl (j 2 rfl)),
  fun f s W i j k l m a => gno (a.says (d := 10) rfl rfl (j 2 rfl)),
  fun f s W i j k l m a => gno (a.says (d := 10) rfl rfl (j 2 rfl)),
  fun f s W i j k l m a => gno (a.says (d := 10) rfl rfl (j 2 rfl)),
  fun f s W i j k l m a => gno (a.says (d := 10) rfl rfl (j 2 rfl)),
  fun f s W i j k l m a => gno (a.says (d := 10) rfl rfl (j 2 rfl)),
  fun f s W i j k l m a => gno (a.says (d := 10) rfl rfl (j 2 rfl)),
  fun f s W i j k l m a => gno (a.says (d := 10) rfl rfl (j 2 rfl)),
  fun f s W i j k l m a => gno (a.says (d := 10) rfl rfl (j 2 rfl)),
  fun f s W i j k l m a => opk (c := false) rfl rfl (fun _ => by simp [go_sem, a.e 10 (j 2 rfl)]) (fun h => absurd h (by decide)),
  fun f s W i j k l m a => opm (a.v 20 (j 12 rfl)), trivial⟩ ?_
 intro f2 s2 W2 hB2 g2 hg2 z2
 have fB2 := hB2.f (hB1.f fB0)
 have k2_7 := kt hg2 7 (hB2.is 13)
 refine wp_ret ?_
 refine leave_one (N := 21) (.inr rfl) Tryz.results100 rfl k2_7 ?_
 exact ⟨rfl, fB2⟩
end Go.Proofs.YthnediamopehfaaGreat
