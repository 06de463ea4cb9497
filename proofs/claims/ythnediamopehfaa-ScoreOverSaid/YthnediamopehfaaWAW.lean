/- Part of the proof: what the claim leans on. -/
import Derived.Test.YthnediamopehfaaWAU
set_option linter.unusedSimpArgs false
set_option linter.unusedVariables false
namespace Go.Proofs.Ythnediamopehfaa
open Go.RowKit
set_option maxRecDepth 100000 in
set_option maxHeartbeats 400000 in
theorem closesI_0_2 (x0 x2 x3 x4 x5 x6 : Value) (l1 h1 l2 h2 l3 h3 l4 h4 l5 h5 : Int) (wo : Bool) (hw : WishIn ⟨(l1, h1), (l2, h2), (l3, h3), (l4, h4), (l5, h5), wo⟩) (c off p0 p1 p2 p3 v0 v1 v2 v3 : Int) (q0 o0 m0 q1 o1 m1 bp ox cp gq cap : Nat) (D1 D2 D3 D4 : Nat) (w : World) (hP : Ii w (some ⟨bp, ox, none⟩) 4 cp [p0, p1, p2, p3]) (hpp : ∀ x ∈ [p0, p1, p2, p3], 1 ≤ x ∧ x ≤ 3000) (hgq : gq < w.heap.size) (e0 : w.cell? ⟨gq, 0, none⟩ = some (.slice (some ⟨q0, o0, none⟩) 2 m0)) (hI0 : Ii w (some ⟨q0, o0, none⟩) 2 m0 [v0, v1]) (hv0 : 0 ≤ v0) (hv0' : v0 ≤ 3000) (hv1 : 0 ≤ v1) (hv1' : v1 ≤ 3000) (e1 : w.cell? ⟨gq, 1, none⟩ = some (.slice (some ⟨q1, o1, none⟩) 2 m1)) (hI1 : Ii w (some ⟨q1, o1, none⟩) 2 m1 [v2, v3]) (hv2 : 0 ≤ v2) (hv2' : v2 ≤ 3000) (hv3 : 0 ≤ v3) (hv3' : v3 ≤ 3000) (hc1 : 0 ≤ c) (hc2 : c ≤ 100000) (ho1 : 0 ≤ off) (ho2 : off ≤ 5) (u1 : w.heap[D1]? = some (.cells #[x0, .slice (some ⟨bp, ox, none⟩) (4) (cp), x2, x3, x4, x5, x6, .int .i64 off] 104 (0, 0))) (u2 : w.heap[D2]? = some (.cells #[.int .i64 c] 3 (0, 0))) (u3 : w.heap[D3]? = some (.cells #[.int .i64 l1, .int .i64 h1, .int .i64 l2, .int .i64 h2, .int .i64 l3, .int .i64 h3, .int .i64 l4, .int .i64 h4, .int .i64 l5, .int .i64 h5, .bool wo] 69 (0, 0))) (u4 : w.heap[D4]? = some (.cells #[.slice (some ⟨gq, 0, none⟩) (2) (cap)] 107 (0, 0))) :
  Calls Try.prog 77 #[.int .i64 0, .pointer (some ⟨D1, 0, none⟩), .pointer (some ⟨D2, 0, none⟩), .pointer (some ⟨D3, 0, none⟩), .pointer (some ⟨D4, 0, none⟩)] w (fun e w' => e = .returned (.bool (someB 1 p0 off (fun p => okP ⟨(l1, h1), (l2, h2), (l3, h3), (l4, h4), (l5, h5), wo⟩ c off p [(v0, v1), (v2, v3)] 0))) ∧ Below w.heap.size w w') := by
 obtain ⟨b', o', hbo, hbl, hcl⟩ := hP.at (by simp)
 cases hbo
 have hi := hpp p0 (by simp)
 refine calls_fr Try.func77 Try.ntmps77 rfl rfl fun g hg => ?_
 have k0 : g 0 = .int .i64 0 := hg 0
 have k1 : g 1 = .pointer (some ⟨D1, 0, none⟩) := hg 1
 have k2 : g 2 = .pointer (some ⟨D2, 0, none⟩) := hg 2
 have k3 : g 3 = .pointer (some ⟨D3, 0, none⟩) := hg 3
 have k4 : g 4 = .pointer (some ⟨D4, 0, none⟩) := hg 4
 clear hg
 have fB0 : Below w.heap.size w w := Below.refl _ _
 have lt_D1 := lt_of_blk u1
 have lt_D2 := lt_of_blk u2
 have lt_D3 := lt_of_blk u3
 have lt_D4 := lt_of_blk u4
 refine wp_seq_k fun K1 hK1 => ?_
 refine region_dk 2 [(5, 0), (6, 1)] [[], []] (rel [bx 0 #[.int .i64 0] 3,
   is (.bool false)])
  ⟨bx_k, is_k, trivial⟩
  ⟨fun f s W d h i j k a => opb rfl rfl (by simp [go_sem, a.e 0 k0]),
  fun f s W d h i j k a => opv rfl rfl (by simp [go_sem]) rfl, trivial⟩ ?_
 intro f1 s1 W1 hB1 g1 hg1
 have fB1 := hB1.f fB0
 have z1 := hB1.below.size
 have b1_0 := hB1.b u1
 have b1_1 := hB1.b u2
 have b1_2 := hB1.b u3
 have b1_3 := hB1.b u4
 obtain ⟨r1_0, br1_0⟩ := hB1.is 0
 have lr1_0 := hB1.lr 0 br1_0
 refine hK1 _ _ ?_
 have k1_1 := kt hg1 1 k1
 have k1_2 := kt hg1 2 k2
 have k1_3 := kt hg1 3 k3
 have k1_4 := kt hg1 4 k4
 have k1_5 := kt hg1 5 r1_0
 have k1_6 := kt hg1 6 (hB1.is 1)
 refine wp_seq_k fun K2 hK2 => ?_
 refine region_dk 11 [(7, 0), (8, 1), (9, 2), (10, 3), (11, 4), (12, 5), (13, 6), (14, 7), (15, 8), (16, 9), (6, 10)] [[], [], [1], [1, 2], [1, 2, 3], [], [1, 2, 3, 4, 5], [1, 2, 3, 4, 5, 6], [], [0, 1, 2, 3, 4, 5, 6, 7, 8], [0, 1, 2, 3, 4, 5, 6, 7, 8, 9]] (rel [is (.agg #[x0, .slice (some ⟨bp, ox, none⟩) (4) (cp), x2, x3, x4, x5, x6, .int .i64 off]),
   is (.pointer (some ⟨D1, 0, none⟩)),
   is (.pointer (some ⟨D1, 0, none⟩)),
   is (.pointer (some ⟨D1, 1, none⟩)),
   is (.slice (some ⟨bp, ox, none⟩) (4) (cp)),
   is (.int .i64 0),
   is (.pointer (some ⟨bp, ox, none⟩)),
   is (.int .i64 p0),
   is (.func (.func 79) #[] #[.pointer (some ⟨D2, 0, none⟩), .pointer (some ⟨D3, 0, none⟩), .pointer (some ⟨(s1 0), 0, none⟩), .pointer (some ⟨D1, 0, none⟩), .pointer (some ⟨D4, 0, none⟩)]),
   is (.bool (someB 1 p0 off (fun p => okP ⟨(l1, h1), (l2, h2), (l3, h3), (l4, h4), (l5, h5), wo⟩ c off p [(v0, v1), (v2, v3)] 0))),
   is (.bool (someB 1 p0 off (fun p => okP ⟨(l1, h1), (l2, h2), (l3, h3), (l4, h4), (l5, h5), wo⟩ c off p [(v0, v1), (v2, v3)] 0)))])
  ⟨is_k, is_k, is_k, is_k, is_k, is_k, is_k, is_k, is_k, is_k, is_k, trivial⟩
  ⟨fun f s W d h i j k a => opv rfl rfl (by simp [go_sem, a.e 1 k1_1, cb b1_0 d 0, cb b1_0 d 1, cb b1_0 d 2, cb b1_0 d 3, cb b1_0 d 4, cb b1_0 d 5, cb b1_0 d 6, cb b1_0 d 7]) rfl,
  fun f s W d h i j k a => opv rfl rfl (by simp [go_sem, a.e 1 k1_1]) rfl,
  fun f s W d h i j k a => opv rfl rfl (by simp [go_sem, a.e 8 (h 1 rfl)]) rfl,
  fun f s W d h i j k a => opv rfl rfl (by simp [go_sem, a.e 9 (h 2 rfl)]) rfl,
  fun f s W d h i j k a => opv rfl rfl (by simp [go_sem, a.e 10 (h 3 rfl), cb b1_0 d 1]) rfl,
  fun f s W d h i j k a => opv rfl rfl (by simp [go_sem, a.e 5 k1_5, cb br1_0 d 0]) rfl,
  fun f s W d h i j k a => opv rfl rfl (by simp [go_sem, a.e 11 (h 4 rfl), a.e 12 (h 5 rfl)]) rfl,
  fun f s W d h i j k a => by have l := below_trans fB1 d; have uu : W.cell? ⟨bp, ox, none⟩ = some (.int .i64 p0) := (l.cell (p := ⟨bp, ox + 0, none⟩) hbl).trans (hcl 0 (by simp)); exact opv rfl rfl (by simp [go_sem, a.e 13 (h 6 rfl), uu]) rfl,
  fun f s W d h i j k a => opv rfl rfl (by simp [go_sem, a.e 2 k1_2, a.e 3 k1_3, a.e 5 k1_5, a.e 1 k1_1, a.e 4 k1_4]) rfl,
  fun f s W d h i j k a => by have l := below_trans fB1 d; exact opc (args := #[.agg #[x0, .slice (some ⟨bp, ox, none⟩) (4) (cp), x2, x3, x4, x5, x6, .int .i64 off], .int .i64 1, .int .i64 p0, .func (.func 79) #[] #[.pointer (some ⟨D2, 0, none⟩), .pointer (some ⟨D3, 0, none⟩), .pointer (some ⟨(s1 0), 0, none⟩), .pointer (some ⟨D1, 0, none⟩), .pointer (some ⟨D4, 0, none⟩)]]) rfl rfl (by simp [go_sem, a.e 7 (h 0 rfl), a.e 14 (h 7 rfl), a.e 15 (h 8 rfl)]) (some_any x0 (.slice (some ⟨bp, ox, none⟩) (4) (cp)) x2 x3 x4 x5 x6 off 1 p0  79 #[.pointer (some ⟨D2, 0, none⟩), .pointer (some ⟨D3, 0, none⟩), .pointer (some ⟨(s1 0), 0, none⟩), .pointer (some ⟨D1, 0, none⟩), .pointer (some ⟨D4, 0, none⟩)] (fun p => okP ⟨(l1, h1), (l2, h2), (l3, h3), (l4, h4), (l5, h5), wo⟩ c off p [(v0, v1), (v2, v3)] 0) W (by omega) (by omega) (by omega) (by omega) (by omega) (by omega) (fun _ _ => by simp [go_sem]) (fun x y1 y2 W' hb' => closesP_0_2 x0 (.slice (some ⟨bp, ox, none⟩) (4) (cp)) x2 x3 x4 x5 x6 l1 h1 l2 h2 l3 h3 l4 h4 l5 h5 wo hw x c off v0 v1 v2 v3 q0 o0 m0 q1 o1 m1 gq cap D2 D3 _ D1 D4 W' (Nat.lt_of_lt_of_le hgq (below_trans l hb').size) ((hb'.cell (p := ⟨gq, 0, none⟩) (Nat.lt_of_lt_of_le hgq l.size)).trans ((l.cell (p := ⟨gq, 0, none⟩) hgq).trans e0)) (hI0.below (below_trans l hb') (Nat.le_refl _)) hv0 hv0' hv1 hv1' ((hb'.cell (p := ⟨gq, 1, none⟩) (Nat.lt_of_lt_of_le hgq l.size)).trans ((l.cell (p := ⟨gq, 1, none⟩) hgq).trans e1)) (hI1.below (below_trans l hb') (Nat.le_refl _)) hv2 hv2' hv3 hv3' (by unfold loOf at y1; omega) (by unfold hiOf at y2; omega) hc1 hc2 ho1 ho2 (blk_below (blk_below b1_1 d) hb') (blk_below (blk_below b1_2 d) hb') (blk_below (blk_below br1_0 d) hb') (blk_below (blk_below b1_0 d) hb') (blk_below (blk_below b1_3 d) hb'))),
  fun f s W d h i j k a => opv rfl rfl (by simp [go_sem, a.e 16 (h 9 rfl)]) rfl, trivial⟩ ?_
 intro f2 s2 W2 hB2 g2 hg2
 have fB2 := hB2.f fB1
 have z2 := hB2.below.size
 have b2_0 := hB2.b b1_0
 have b2_1 := hB2.b b1_1
 have b2_2 := hB2.b b1_2
 have b2_3 := hB2.b b1_3
 have b2_4 := hB2.b br1_0
 refine hK2 _ _ ?_
 have k2_6 := kt hg2 6 (hB2.is 10)
 refine wp_ret ?_
 refine leave_one (N := 17) (v := .bool (someB 1 p0 off (fun p => okP ⟨(l1, h1), (l2, h2), (l3, h3), (l4, h4), (l5, h5), wo⟩ c off p [(v0, v1), (v2, v3)] 0))) (.inr rfl) Try.results77 rfl k2_6 ?_
 exact ⟨rfl, fB2⟩
set_option maxRecDepth 100000 in
set_option maxHeartbeats 400000 in
theorem closesI_1_2 (x0 x2 x3 x4 x5 x6 : Value) (l1 h1 l2 h2 l3 h3 l4 h4 l5 h5 : Int) (wo : Bool) (hw : WishIn ⟨(l1, h1), (l2, h2), (l3, h3), (l4, h4), (l5, h5), wo⟩) (c off p0 p1 p2 p3 v0 v1 v2 v3 : Int) (q0 o0 m0 q1 o1 m1 bp ox cp gq cap : Nat) (D1 D2 D3 D4 : Nat) (w : World) (hP : Ii w (some ⟨bp, ox, none⟩) 4 cp [p0, p1, p2, p3]) (hpp : ∀ x ∈ [p0, p1, p2, p3], 1 ≤ x ∧ x ≤ 3000) (hgq : gq < w.heap.size) (e0 : w.cell? ⟨gq, 0, none⟩ = some (.slice (some ⟨q0, o0, none⟩) 2 m0)) (hI0 : Ii w (some ⟨q0, o0, none⟩) 2 m0 [v0, v1]) (hv0 : 0 ≤ v0) (hv0' : v0 ≤ 3000) (hv1 : 0 ≤ v1) (hv1' : v1 ≤ 3000) (e1 : w.cell? ⟨gq, 1, none⟩ = some (.slice (some ⟨q1, o1, none⟩) 2 m1)) (hI1 : Ii w (some ⟨q1, o1, none⟩) 2 m1 [v2, v3]) (hv2 : 0 ≤ v2) (hv2' : v2 ≤ 3000) (hv3 : 0 ≤ v3) (hv3' : v3 ≤ 3000) (hc1 : 0 ≤ c) (hc2 : c ≤ 100000) (ho1 : 0 ≤ off) (ho2 : off ≤ 5) (u1 : w.heap[D1]? = some (.cells #[x0, .slice (some ⟨bp, ox, none⟩) (4) (cp), x2, x3, x4, x5, x6, .int .i64 off] 104 (0, 0))) (u2 : w.heap[D2]? = some (.cells #[.int .i64 c] 3 (0, 0))) (u3 : w.heap[D3]? = some (.cells #[.int .i64 l1, .int .i64 h1, .int .i64 l2, .int .i64 h2, .int .i64 l3, .int .i64 h3, .int .i64 l4, .int .i64 h4, .int .i64 l5, .int .i64 h5, .bool wo] 69 (0, 0))) (u4 : w.heap[D4]? = some (.cells #[.slice (some ⟨gq, 0, none⟩) (2) (cap)] 107 (0, 0))) :
  Calls Try.prog 77 #[.int .i64 1, .pointer (some ⟨D1, 0, none⟩), .pointer (some ⟨D2, 0, none⟩), .pointer (some ⟨D3, 0, none⟩), .pointer (some ⟨D4, 0, none⟩)] w (fun e w' => e = .returned (.bool (someB 1 p1 off (fun p => okP ⟨(l1, h1), (l2, h2), (l3, h3), (l4, h4), (l5, h5), wo⟩ c off p [(v0, v1), (v2, v3)] 1))) ∧ Below w.heap.size w w') := by
 obtain ⟨b', o', hbo, hbl, hcl⟩ := hP.at (by simp)
 cases hbo
 have hi := hpp p1 (by simp)
 refine calls_fr Try.func77 Try.ntmps77 rfl rfl fun g hg => ?_
 have k0 : g 0 = .int .i64 1 := hg 0
 have k1 : g 1 = .pointer (some ⟨D1, 0, none⟩) := hg 1
 have k2 : g 2 = .pointer (some ⟨D2, 0, none⟩) := hg 2
 have k3 : g 3 = .pointer (some ⟨D3, 0, none⟩) := hg 3
 have k4 : g 4 = .pointer (some ⟨D4, 0, none⟩) := hg 4
 clear hg
 have fB0 : Below w.heap.size w w := Below.refl _ _
 have lt_D1 := lt_of_blk u1
 have lt_D2 := lt_of_blk u2
 have lt_D3 := lt_of_blk u3
 have lt_D4 := lt_of_blk u4
 refine wp_seq_k fun K1 hK1 => ?_
 refine region_dk 2 [(5, 0), (6, 1)] [[], []] (rel [bx 0 #[.int .i64 1] 3,
   is (.bool false)])
  ⟨bx_k, is_k, trivial⟩
  ⟨fun f s W d h i j k a => opb rfl rfl (by simp [go_sem, a.e 0 k0]),
  fun f s W d h i j k a => opv rfl rfl (by simp [go_sem]) rfl, trivial⟩ ?_
 intro f1 s1 W1 hB1 g1 hg1
 have fB1 := hB1.f fB0
 have z1 := hB1.below.size
 have b1_0 := hB1.b u1
 have b1_1 := hB1.b u2
 have b1_2 := hB1.b u3
 have b1_3 := hB1.b u4
 obtain ⟨r1_0, br1_0⟩ := hB1.is 0
 have lr1_0 := hB1.lr 0 br1_0
 refine hK1 _ _ ?_
 have k1_1 := kt hg1 1 k1
 have k1_2 := kt hg1 2 k2
 have k1_3 := kt hg1 3 k3
 have k1_4 := kt hg1 4 k4
 have k1_5 := kt hg1 5 r1_0
 have k1_6 := kt hg1 6 (hB1.is 1)
 refine wp_seq_k fun K2 hK2 => ?_
 refine region_dk 11 [(7, 0), (8, 1), (9, 2), (10, 3), (11, 4), (12, 5), (13, 6), (14, 7), (15, 8), (16, 9), (6, 10)] [[], [], [1], [1, 2], [1, 2, 3], [], [1, 2, 3, 4, 5], [1, 2, 3, 4, 5, 6], [], [0, 1, 2, 3, 4, 5, 6, 7, 8], [0, 1, 2, 3, 4, 5, 6, 7, 8, 9]] (rel [is (.agg #[x0, .slice (some ⟨bp, ox, none⟩) (4) (cp), x2, x3, x4, x5, x6, .int .i64 off]),
   is (.pointer (some ⟨D1, 0, none⟩)),
   is (.pointer (some ⟨D1, 0, none⟩)),
   is (.pointer (some ⟨D1, 1, none⟩)),
   is (.slice (some ⟨bp, ox, none⟩) (4) (cp)),
   is (.int .i64 1),
   is (.pointer (some ⟨bp, ox + 1, none⟩)),
   is (.int .i64 p1),
   is (.func (.func 79) #[] #[.pointer (some ⟨D2, 0, none⟩), .pointer (some ⟨D3, 0, none⟩), .pointer (some ⟨(s1 0), 0, none⟩), .pointer (some ⟨D1, 0, none⟩), .pointer (some ⟨D4, 0, none⟩)]),
   is (.bool (someB 1 p1 off (fun p => okP ⟨(l1, h1), (l2, h2), (l3, h3), (l4, h4), (l5, h5), wo⟩ c off p [(v0, v1), (v2, v3)] 1))),
   is (.bool (someB 1 p1 off (fun p => okP ⟨(l1, h1), (l2, h2), (l3, h3), (l4, h4), (l5, h5), wo⟩ c off p [(v0, v1), (v2, v3)] 1)))])
  ⟨is_k, is_k, is_k, is_k, is_k, is_k, is_k, is_k, is_k, is_k, is_k, trivial⟩
  ⟨fun f s W d h i j k a => opv rfl rfl (by simp [go_sem, a.e 1 k1_1, cb b1_0 d 0, cb b1_0 d 1, cb b1_0 d 2, cb b1_0 d 3, cb b1_0 d 4, cb b1_0 d 5, cb b1_0 d 6, cb b1_0 d 7]) rfl,
  fun f s W d h i j k a => opv rfl rfl (by simp [go_sem, a.e 1 k1_1]) rfl,
  fun f s W d h i j k a => opv rfl rfl (by simp [go_sem, a.e 8 (h 1 rfl)]) rfl,
  fun f s W d h i j k a => opv rfl rfl (by simp [go_sem, a.e 9 (h 2 rfl)]) rfl,
  fun f s W d h i j k a => opv rfl rfl (by simp [go_sem, a.e 10 (h 3 rfl), cb b1_0 d 1]) rfl,
  fun f s W d h i j k a => opv rfl rfl (by simp [go_sem, a.e 5 k1_5, cb br1_0 d 0]) rfl,
  fun f s W d h i j k a => opv rfl rfl (by simp [go_sem, a.e 11 (h 4 rfl), a.e 12 (h 5 rfl)]) rfl,
  fun f s W d h i j k a => by have l := below_trans fB1 d; have uu : W.cell? ⟨bp, ox + 1, none⟩ = some (.int .i64 p1) := (l.cell (p := ⟨bp, ox + 1, none⟩) hbl).trans (hcl 1 (by simp)); exact opv rfl rfl (by simp [go_sem, a.e 13 (h 6 rfl), uu]) rfl,
  fun f s W d h i j k a => opv rfl rfl (by simp [go_sem, a.e 2 k1_2, a.e 3 k1_3, a.e 5 k1_5, a.e 1 k1_1, a.e 4 k1_4]) rfl,
  fun f s W d h i j k a => by have l := below_trans fB1 d; exact opc (args := #[.agg #[x0, .slice (some ⟨bp, ox, none⟩) (4) (cp), x2, x3, x4, x5, x6, .int .i64 off], .int .i64 1, .int .i64 p1, .func (.func 79) #[] #[.pointer (some ⟨D2, 0, none⟩), .pointer (some ⟨D3, 0, none⟩), .pointer (some ⟨(s1 0), 0, none⟩), .pointer (some ⟨D1, 0, none⟩), .pointer (some ⟨D4, 0, none⟩)]]) rfl rfl (by simp [go_sem, a.e 7 (h 0 rfl), a.e 14 (h 7 rfl), a.e 15 (h 8 rfl)]) (some_any x0 (.slice (some ⟨bp, ox, none⟩) (4) (cp)) x2 x3 x4 x5 x6 off 1 p1  79 #[.pointer (some ⟨D2, 0, none⟩), .pointer (some ⟨D3, 0, none⟩), .pointer (some ⟨(s1 0), 0, none⟩), .pointer (some ⟨D1, 0, none⟩), .pointer (some ⟨D4, 0, none⟩)] (fun p => okP ⟨(l1, h1), (l2, h2), (l3, h3), (l4, h4), (l5, h5), wo⟩ c off p [(v0, v1), (v2, v3)] 1) W (by omega) (by omega) (by omega) (by omega) (by omega) (by omega) (fun _ _ => by simp [go_sem]) (fun x y1 y2 W' hb' => closesP_1_2 x0 (.slice (some ⟨bp, ox, none⟩) (4) (cp)) x2 x3 x4 x5 x6 l1 h1 l2 h2 l3 h3 l4 h4 l5 h5 wo hw x c off v0 v1 v2 v3 q0 o0 m0 q1 o1 m1 gq cap D2 D3 _ D1 D4 W' (Nat.lt_of_lt_of_le hgq (below_trans l hb').size) ((hb'.cell (p := ⟨gq, 0, none⟩) (Nat.lt_of_lt_of_le hgq l.size)).trans ((l.cell (p := ⟨gq, 0, none⟩) hgq).trans e0)) (hI0.below (below_trans l hb') (Nat.le_refl _)) hv0 hv0' hv1 hv1' ((hb'.cell (p := ⟨gq, 1, none⟩) (Nat.lt_of_lt_of_le hgq l.size)).trans ((l.cell (p := ⟨gq, 1, none⟩) hgq).trans e1)) (hI1.below (below_trans l hb') (Nat.le_refl _)) hv2 hv2' hv3 hv3' (by unfold loOf at y1; omega) (by unfold hiOf at y2; omega) hc1 hc2 ho1 ho2 (blk_below (blk_below b1_1 d) hb') (blk_below (blk_below b1_2 d) hb') (blk_below (blk_below br1_0 d) hb') (blk_below (blk_below b1_0 d) hb') (blk_below (blk_below b1_3 d) hb'))),
  fun f s W d h i j k a => opv rfl rfl (by simp [go_sem, a.e 16 (h 9 rfl)]) rfl, trivial⟩ ?_
 intro f2 s2 W2 hB2 g2 hg2
 have fB2 := hB2.f fB1
 have z2 := hB2.below.size
 have b2_0 := hB2.b b1_0
 have b2_1 := hB2.b b1_1
 have b2_2 := hB2.b b1_2
 have b2_3 := hB2.b b1_3
 have b2_4 := hB2.b br1_0
 refine hK2 _ _ ?_
 have k2_6 := kt hg2 6 (hB2.is 10)
 refine wp_ret ?_
 refine leave_one (N := 17) (v := .bool (someB 1 p1 off (fun p => okP ⟨(l1, h1), (l2, h2), (l3, h3), (l4, h4), (l5, h5), wo⟩ c off p [(v0, v1), (v2, v3)] 1))) (.inr rfl) Try.results77 rfl k2_6 ?_
 exact ⟨rfl, fB2⟩
set_option maxRecDepth 100000 in
set_option maxHeartbeats 400000 in
theorem closesI_2_2 (x0 x2 x3 x4 x5 x6 : Value) (l1 h1 l2 h2 l3 h3 l4 h4 l5 h5 : Int) (wo : Bool) (hw : WishIn ⟨(l1, h1), (l2, h2), (l3, h3), (l4, h4), (l5, h5), wo⟩) (c off p0 p1 p2 p3 v0 v1 v2 v3 : Int) (q0 o0 m0 q1 o1 m1 bp ox cp gq cap : Nat) (D1 D2 D3 D4 : Nat) (w : World) (hP : Ii w (some ⟨bp, ox, none⟩) 4 cp [p0, p1, p2, p3]) (hpp : ∀ x ∈ [p0, p1, p2, p3], 1 ≤ x ∧ x ≤ 3000) (hgq : gq < w.heap.size) (e0 : w.cell? ⟨gq, 0, none⟩ = some (.slice (some ⟨q0, o0, none⟩) 2 m0)) (hI0 : Ii w (some ⟨q0, o0, none⟩) 2 m0 [v0, v1]) (hv0 : 0 ≤ v0) (hv0' : v0 ≤ 3000) (hv1 : 0 ≤ v1) (hv1' : v1 ≤ 3000) (e1 : w.cell? ⟨gq, 1, none⟩ = some (.slice (some ⟨q1, o1, none⟩) 2 m1)) (hI1 : Ii w (some ⟨q1, o1, none⟩) 2 m1 [v2, v3]) (hv2 : 0 ≤ v2) (hv2' : v2 ≤ 3000) (hv3 : 0 ≤ v3) (hv3' : v3 ≤ 3000) (hc1 : 0 ≤ c) (hc2 : c ≤ 100000) (ho1 : 0 ≤ off) (ho2 : off ≤ 5) (u1 : w.heap[D1]? = some (.cells #[x0, .slice (some ⟨bp, ox, none⟩) (4) (cp), x2, x3, x4, x5, x6, .int .i64 off] 104 (0, 0))) (u2 : w.heap[D2]? = some (.cells #[.int .i64 c] 3 (0, 0))) (u3 : w.heap[D3]? = some (.cells #[.int .i64 l1, .int .i64 h1, .int .i64 l2, .int .i64 h2, .int .i64 l3, .int .i64 h3, .int .i64 l4, .int .i64 h4, .int .i64 l5, .int .i64 h5, .bool wo] 69 (0, 0))) (u4 : w.heap[D4]? = some (.cells #[.slice (some ⟨gq, 0, none⟩) (2) (cap)] 107 (0, 0))) :
  Calls Try.prog 77 #[.int .i64 2, .pointer (some ⟨D1, 0, none⟩), .pointer (some ⟨D2, 0, none⟩), .pointer (some ⟨D3, 0, none⟩), .pointer (some ⟨D4, 0, none⟩)] w (fun e w' => e = .returned (.bool (someB 1 p2 off (fun p => okP ⟨(l1, h1), (l2, h2), (l3, h3), (l4, h4), (l5, h5), wo⟩ c off p [(v0, v1), (v2, v3)] 2))) ∧ Below w.heap.size w w') := by
 obtain ⟨b', o', hbo, hbl, hcl⟩ := hP.at (by simp)
 cases hbo
 have hi := hpp p2 (by simp)
 refine calls_fr Try.func77 Try.ntmps77 rfl rfl fun g hg => ?_
 have k0 : g 0 = .int .i64 2 := hg 0
 have k1 : g 1 = .pointer (some ⟨D1, 0, none⟩) := hg 1
 have k2 : g 2 = .pointer (some ⟨D2, 0, none⟩) := hg 2
 have k3 : g 3 = .pointer (some ⟨D3, 0, none⟩) := hg 3
 have k4 : g 4 = .pointer (some ⟨D4, 0, none⟩) := hg 4
 clear hg
 have fB0 : Below w.heap.size w w := Below.refl _ _
 have lt_D1 := lt_of_blk u1
 have lt_D2 := lt_of_blk u2
 have lt_D3 := lt_of_blk u3
 have lt_D4 := lt_of_blk u4
 refine wp_seq_k fun K1 hK1 => ?_
 refine region_dk 2 [(5, 0), (6, 1)] [[], []] (rel [bx 0 #[.int .i64 2] 3,
   is (.bool false)])
  ⟨bx_k, is_k, trivial⟩
  ⟨fun f s W d h i j k a => opb rfl rfl (by simp [go_sem, a.e 0 k0]),
  fun f s W d h i j k a => opv rfl rfl (by simp [go_sem]) rfl, trivial⟩ ?_
 intro f1 s1 W1 hB1 g1 hg1
 have fB1 := hB1.f fB0
 have z1 := hB1.below.size
 have b1_0 := hB1.b u1
 have b1_1 := hB1.b u2
 have b1_2 := hB1.b u3
 have b1_3 := hB1.b u4
 obtain ⟨r1_0, br1_0⟩ := hB1.is 0
 have lr1_0 := hB1.lr 0 br1_0
 refine hK1 _ _ ?_
 have k1_1 := kt hg1 1 k1
 have k1_2 := kt hg1 2 k2
 have k1_3 := kt hg1 3 k3
 have k1_4 := kt hg1 4 k4
 have k1_5 := kt hg1 5 r1_0
 have k1_6 := kt hg1 6 (hB1.is 1)
 refine wp_seq_k fun K2 hK2 => ?_
 refine region_dk 11 [(7, 0), (8, 1), (9, 2), (10, 3), (11, 4), (12, 5), (13, 6), (14, 7), (15, 8), (16, 9), (6, 10)] [[], [], [1], [1, 2], [1, 2, 3], [], [1, 2, 3, 4, 5], [1, 2, 3, 4, 5, 6], [], [0, 1, 2, 3, 4, 5, 6, 7, 8], [0, 1, 2, 3, 4, 5, 6, 7, 8, 9]] (rel [is (.agg #[x0, .slice (some ⟨bp, ox, none⟩) (4) (cp), x2, x3, x4, x5, x6, .int .i64 off]),
   is (.pointer (some ⟨D1, 0, none⟩)),
   is (.pointer (some ⟨D1, 0, none⟩)),
   is (.pointer (some ⟨D1, 1, none⟩)),
   is (.slice (some ⟨bp, ox, none⟩) (4) (cp)),
   is (.int .i64 2),
   is (.pointer (some ⟨bp, ox + 2, none⟩)),
   is (.int .i64 p2),
   is (.func (.func 79) #[] #[.pointer (some ⟨D2, 0, none⟩), .pointer (some ⟨D3, 0, none⟩), .pointer (some ⟨(s1 0), 0, none⟩), .pointer (some ⟨D1, 0, none⟩), .pointer (some ⟨D4, 0, none⟩)]),
   is (.bool (someB 1 p2 off (fun p => okP ⟨(l1, h1), (l2, h2), (l3, h3), (l4, h4), (l5, h5), wo⟩ c off p [(v0, v1), (v2, v3)] 2))),
   is (.bool (someB 1 p2 off (fun p => okP ⟨(l1, h1), (l2, h2), (l3, h3), (l4, h4), (l5, h5), wo⟩ c off p [(v0, v1), (v2, v3)] 2)))])
  ⟨is_k, is_k, is_k, is_k, is_k, is_k, is_k, is_k, is_k, is_k, is_k, trivial⟩
  ⟨fun f s W d h i j k a => opv rfl rfl (by simp [go_sem, a.e 1 k1_1, cb b1_0 d 0, cb b1_0 d 1, cb b1_0 d 2, cb b1_0 d 3, cb b1_0 d 4, cb b1_0 d 5, cb b1_0 d 6, cb b1_0 d 7]) rfl,
  fun f s W d h i j k a => opv rfl rfl (by simp [go_sem, a.e 1 k1_1]) rfl,
  fun f s W d h i j k a => opv rfl rfl (by simp [go_sem, a.e 8 (h 1 rfl)]) rfl,
  fun f s W d h i j k a => opv rfl rfl (by simp [go_sem, a.e 9 (h 2 rfl)]) rfl,
  fun f s W d h i j k a => opv rfl rfl (by simp [go_sem, a.e 10 (h 3 rfl), cb b1_0 d 1]) rfl,
  fun f s W d h i j k a => opv rfl rfl (by simp [go_sem, a.e 5 k1_5, cb br1_0 d 0]) rfl,
  fun f s W d h i j k a => opv rfl rfl (by simp [go_sem, a.e 11 (h 4 rfl), a.e 12 (h 5 rfl)]) rfl,
  fun f s W d h i j k a => by have l := below_trans fB1 d; have uu : W.cell? ⟨bp, ox + 2, none⟩ = some (.int .i64 p2) := (l.cell (p := ⟨bp, ox + 2, none⟩) hbl).trans (hcl 2 (by simp)); exact opv rfl rfl (by simp [go_sem, a.e 13 (h 6 rfl), uu]) rfl,
  fun f s W d h i j k a => opv rfl rfl (by simp [go_sem, a.e 2 k1_2, a.e 3 k1_3, a.e 5 k1_5, a.e 1 k1_1, a.e 4 k1_4]) rfl,
  fun f s W d h i j k a => by have l := below_trans fB1 d; exact opc (args := #[.agg #[x0, .slice (some ⟨bp, ox, none⟩) (4) (cp), x2, x3, x4, x5, x6, .int .i64 off], .int .i64 1, .int .i64 p2, .func (.func 79) #[] #[.pointer (some ⟨D2, 0, none⟩), .pointer (some ⟨D3, 0, none⟩), .pointer (some ⟨(s1 0), 0, none⟩), .pointer (some ⟨D1, 0, none⟩), .pointer (some ⟨D4, 0, none⟩)]]) rfl rfl (by simp [go_sem, a.e 7 (h 0 rfl), a.e 14 (h 7 rfl), a.e 15 (h 8 rfl)]) (some_any x0 (.slice (some ⟨bp, ox, none⟩) (4) (cp)) x2 x3 x4 x5 x6 off 1 p2  79 #[.pointer (some ⟨D2, 0, none⟩), .pointer (some ⟨D3, 0, none⟩), .pointer (some ⟨(s1 0), 0, none⟩), .pointer (some ⟨D1, 0, none⟩), .pointer (some ⟨D4, 0, none⟩)] (fun p => okP ⟨(l1, h1), (l2, h2), (l3, h3), (l4, h4), (l5, h5), wo⟩ c off p [(v0, v1), (v2, v3)] 2) W (by omega) (by omega) (by omega) (by omega) (by omega) (by omega) (fun _ _ => by simp [go_sem]) (fun x y1 y2 W' hb' => closesP_2_2 x0 (.slice (some ⟨bp, ox, none⟩) (4) (cp)) x2 x3 x4 x5 x6 l1 h1 l2 h2 l3 h3 l4 h4 l5 h5 wo hw x c off v0 v1 v2 v3 q0 o0 m0 q1 o1 m1 gq cap D2 D3 _ D1 D4 W' (Nat.lt_of_lt_of_le hgq (below_trans l hb').size) ((hb'.cell (p := ⟨gq, 0, none⟩) (Nat.lt_of_lt_of_le hgq l.size)).trans ((l.cell (p := ⟨gq, 0, none⟩) hgq).trans e0)) (hI0.below (below_trans l hb') (Nat.le_refl _)) hv0 hv0' hv1 hv1' ((hb'.cell (p := ⟨gq, 1, none⟩) (Nat.lt_of_lt_of_le hgq l.size)).trans ((l.cell (p := ⟨gq, 1, none⟩) hgq).trans e1)) (hI1.below (below_trans l hb') (Nat.le_refl _)) hv2 hv2' hv3 hv3' (by unfold loOf at y1; omega) (by unfold hiOf at y2; omega) hc1 hc2 ho1 ho2 (blk_below (blk_below b1_1 d) hb') (blk_below (blk_below b1_2 d) hb') (blk_below (blk_below br1_0 d) hb') (blk_below (blk_below b1_0 d) hb') (blk_below (blk_below b1_3 d) hb'))),
  fun f s W d h i j k a => opv rfl rfl (by simp [go_sem, a.e 16 (h 9 rfl)]) rfl, trivial⟩ ?_
 intro f2 s2 W2 hB2 g2 hg2
 have fB2 := hB2.f fB1
 have z2 := hB2.below.size
 have b2_0 := hB2.b b1_0
 have b2_1 := hB2.b b1_1
 have b2_2 := hB2.b b1_2
 have b2_3 := hB2.b b1_3
 have b2_4 := hB2.b br1_0
 refine hK2 _ _ ?_
 have k2_6 := kt hg2 6 (hB2.is 10)
 refine wp_ret ?_
 refine leave_one (N := 17) (v := .bool (someB 1 p2 off (fun p => okP ⟨(l1, h1), (l2, h2), (l3, h3), (l4, h4), (l5, h5), wo⟩ c off p [(v0, v1), (v2, v3)] 2))) (.inr rfl) Try.results77 rfl k2_6 ?_
 exact ⟨rfl, fB2⟩
set_option maxRecDepth 100000 in
set_option maxHeartbeats 400000 in
theorem closesI_3_2 (x0 x2 x3 x4 x5 x6 : Value) (l1 h1 l2 h2 l3 h3 l4 h4 l5 h5 : Int) (wo : Bool) (hw : WishIn ⟨(l1, h1), (l2, h2), (l3, h3), (l4, h4), (l5, h5), wo⟩) (c off p0 p1 p2 p3 v0 v1 v2 v3 : Int) (q0 o0 m0 q1 o1 m1 bp ox cp gq cap : Nat) (D1 D2 D3 D4 : Nat) (w : World) (hP : Ii w (some ⟨bp, ox, none⟩) 4 cp [p0, p1, p2, p3]) (hpp : ∀ x ∈ [p0, p1, p2, p3], 1 ≤ x ∧ x ≤ 3000) (hgq : gq < w.heap.size) (e0 : w.cell? ⟨gq, 0, none⟩ = some (.slice (some ⟨q0, o0, none⟩) 2 m0)) (hI0 : Ii w (some ⟨q0, o0, none⟩) 2 m0 [v0, v1]) (hv0 : 0 ≤ v0) (hv0' : v0 ≤ 3000) (hv1 : 0 ≤ v1) (hv1' : v1 ≤ 3000) (e1 : w.cell? ⟨gq, 1, none⟩ = some (.slice (some ⟨q1, o1, none⟩) 2 m1)) (hI1 : Ii w (some ⟨q1, o1, none⟩) 2 m1 [v2, v3]) (hv2 : 0 ≤ v2) (hv2' : v2 ≤ 3000) (hv3 : 0 ≤ v3) (hv3' : v3 ≤ 3000) (hc1 : 0 ≤ c) (hc2 : c ≤ 100000) (ho1 : 0 ≤ off) (ho2 : off ≤ 5) (u1 : w.heap[D1]? = some (.cells #[x0, .slice (some ⟨bp, ox, none⟩) (4) (cp), x2, x3, x4, x5, x6, .int .i64 off] 104 (0, 0))) (u2 : w.heap[D2]? = some (.cells #[.int .i64 c] 3 (0, 0))) (u3 : w.heap[D3]? = some (.cells #[.int .i64 l1, .int .i64 h1, .int .i64 l2, .int .i64 h2, .int .i64 l3, .int .i64 h3, .int .i64 l4, .int .i64 h4, .int .i64 l5, .int .i64 h5, .bool wo] 69 (0, 0))) (u4 : w.heap[D4]? = some (.cells #[.slice (some ⟨gq, 0, none⟩) (2) (cap)] 107 (0, 0))) :
  Calls Try.prog 77 #[.int .i64 3, .pointer (some ⟨D1, 0, none⟩), .pointer (some ⟨D2, 0, none⟩), .pointer (some ⟨D3, 0, none⟩), .pointer (some ⟨D4, 0, none⟩)] w (fun e w' => e = .returned (.bool (someB 1 p3 off (fun p => okP ⟨(l1, h1), (l2, h2), (l3, h3), (l4, h4), (l5, h5), wo⟩ c off p [(v0, v1), (v2, v3)] 3))) ∧ Below w.heap.size w w') := by
 obtain ⟨b', o', hbo, hbl, hcl⟩ := hP.at (by simp)
 cases hbo
 have hi := hpp p3 (by simp)
 refine calls_fr Try.func77 Try.ntmps77 rfl rfl fun g hg => ?_
 have k0 : g 0 = .int .i64 3 := hg 0
 have k1 : g 1 = .pointer (some ⟨D1, 0, none⟩) := hg 1
 have k2 : g 2 = .pointer (some ⟨D2, 0, none⟩) := hg 2
 have k3 : g 3 = .pointer (some ⟨D3, 0, none⟩) := hg 3
 have k4 : g 4 = .pointer (some ⟨D4, 0, none⟩) := hg 4
 clear hg
 have fB0 : Below w.heap.size w w := Below.refl _ _
 have lt_D1 := lt_of_blk u1
 have lt_D2 := lt_of_blk u2
 have lt_D3 := lt_of_blk u3
 have lt_D4 := lt_of_blk u4
 refine wp_seq_k fun K1 hK1 => ?_
 refine region_dk 2 [(5, 0), (6, 1)] [[], []] (rel [bx 0 #[.int .i64 3] 3,
   is (.bool false)])
  ⟨bx_k, is_k, trivial⟩
  ⟨fun f s W d h i j k a => opb rfl rfl (by simp [go_sem, a.e 0 k0]),
  fun f s W d h i j k a => opv rfl rfl (by simp [go_sem]) rfl, trivial⟩ ?_
 intro f1 s1 W1 hB1 g1 hg1
 have fB1 := hB1.f fB0
 have z1 := hB1.below.size
 have b1_0 := hB1.b u1
 have b1_1 := hB1.b u2
 have b1_2 := hB1.b u3
 have b1_3 := hB1.b u4
 obtain ⟨r1_0, br1_0⟩ := hB1.is 0
 have lr1_0 := hB1.lr 0 br1_0
 refine hK1 _ _ ?_
 have k1_1 := kt hg1 1 k1
 have k1_2 := kt hg1 2 k2
 have k1_3 := kt hg1 3 k3
 have k1_4 := kt hg1 4 k4
 have k1_5 := kt hg1 5 r1_0
 have k1_6 := kt hg1 6 (hB1.is 1)
 refine wp_seq_k fun K2 hK2 => ?_
 refine region_dk 11 [(7, 0), (8, 1), (9, 2), (10, 3), (11, 4), (12, 5), (13, 6), (14, 7), (15, 8), (16, 9), (6, 10)] [[], [], [1], [1, 2], [1, 2, 3], [], [1, 2, 3, 4, 5], [1, 2, 3, 4, 5, 6], [], [0, 1, 2, 3, 4, 5, 6, 7, 8], [0, 1, 2, 3, 4, 5, 6, 7, 8, 9]] (rel [is (.agg #[x0, .slice (some ⟨bp, ox, none⟩) (4) (cp), x2, x3, x4, x5, x6, .int .i64 off]),
   is (.pointer (some ⟨D1, 0, none⟩)),
   is (.pointer (some ⟨D1, 0, none⟩)),
   is (.pointer (some ⟨D1, 1, none⟩)),
   is (.slice (some ⟨bp, ox, none⟩) (4) (cp)),
   is (.int .i64 3),
   is (.pointer (some ⟨bp, ox + 3, none⟩)),
   is (.int .i64 p3),
   is (.func (.func 79) #[] #[.pointer (some ⟨D2, 0, none⟩), .pointer (some ⟨D3, 0, none⟩), .pointer (some ⟨(s1 0), 0, none⟩), .pointer (some ⟨D1, 0, none⟩), .pointer (some ⟨D4, 0, none⟩)]),
   is (.bool (someB 1 p3 off (fun p => okP ⟨(l1, h1), (l2, h2), (l3, h3), (l4, h4), (l5, h5), wo⟩ c off p [(v0, v1), (v2, v3)] 3))),
   is (.bool (someB 1 p3 off (fun p => okP ⟨(l1, h1), (l2, h2), (l3, h3), (l4, h4), (l5, h5), wo⟩ c off p [(v0, v1), (v2, v3)] 3)))])
  ⟨is_k, is_k, is_k, is_k, is_k, is_k, is_k, is_k, is_k, is_k, is_k, trivial⟩
  ⟨fun f s W d h i j k a => opv rfl rfl (by simp [go_sem, a.e 1 k1_1, cb b1_0 d 0, cb b1_0 d 1, cb b1_0 d 2, cb b1_0 d 3, cb b1_0 d 4, cb b1_0 d 5, cb b1_0 d 6, cb b1_0 d 7]) rfl,
  fun f s W d h i j k a => opv rfl rfl (by simp [go_sem, a.e 1 k1_1]) rfl,
  fun f s W d h i j k a => opv rfl rfl (by simp [go_sem, a.e 8 (h 1 rfl)]) rfl,
  fun f s W d h i j k a => opv rfl rfl (by simp [go_sem, a.e 9 (h 2 rfl)]) rfl,
  fun f s W d h i j k a => opv rfl rfl (by simp [go_sem, a.e 10 (h 3 rfl), cb b1_0 d 1]) rfl,
  fun f s W d h i j k a => opv rfl rfl (by simp [go_sem, a.e 5 k1_5, cb br1_0 d 0]) rfl,
  fun f s W d h i j k a => opv rfl rfl (by simp [go_sem, a.e 11 (h 4 rfl), a.e 12 (h 5 rfl)]) rfl,
  fun f s W d h i j k a => by have l := below_trans fB1 d; have uu : W.cell? ⟨bp, ox + 3, none⟩ = some (.int .i64 p3) := (l.cell (p := ⟨bp, ox + 3, none⟩) hbl).trans (hcl 3 (by simp)); exact opv rfl rfl (by simp [go_sem, a.e 13 (h 6 rfl), uu]) rfl,
  fun f s W d h i j k a => opv rfl rfl (by simp [go_sem, a.e 2 k1_2, a.e 3 k1_3, a.e 5 k1_5, a.e 1 k1_1, a.e 4 k1_4]) rfl,
  fun f s W d h i j k a => by have l := below_trans fB1 d; exact opc (args := #[.agg #[x0, .slice (some ⟨bp, ox, none⟩) (4) (cp), x2, x3, x4, x5, x6, .int .i64 off], .int .i64 1, .int .i64 p3, .func (.func 79) #[] #[.pointer (some ⟨D2, 0, none⟩), .pointer (some ⟨D3, 0, none⟩), .pointer (some ⟨(s1 0), 0, none⟩), .pointer (some ⟨D1, 0, none⟩), .pointer (some ⟨D4, 0, none⟩)]]) rfl rfl (by simp [go_sem, a.e 7 (h 0 rfl), a.e 14 (h 7 rfl), a.e 15 (h 8 rfl)]) (some_any x0 (.slice (some ⟨bp, ox, none⟩) (4) (cp)) x2 x3 x4 x5 x6 off 1 p3  79 #[.pointer (some ⟨D2, 0, none⟩), .pointer (some ⟨D3, 0, none⟩), .pointer (some ⟨(s1 0), 0, none⟩), .pointer (some ⟨D1, 0, none⟩), .pointer (some ⟨D4, 0, none⟩)] (fun p => okP ⟨(l1, h1), (l2, h2), (l3, h3), (l4, h4), (l5, h5), wo⟩ c off p [(v0, v1), (v2, v3)] 3) W (by omega) (by omega) (by omega) (by omega) (by omega) (by omega) (fun _ _ => by simp [go_sem]) (fun x y1 y2 W' hb' => closesP_3_2 x0 (.slice (some ⟨bp, ox, none⟩) (4) (cp)) x2 x3 x4 x5 x6 l1 h1 l2 h2 l3 h3 l4 h4 l5 h5 wo hw x c off v0 v1 v2 v3 q0 o0 m0 q1 o1 m1 gq cap D2 D3 _ D1 D4 W' (Nat.lt_of_lt_of_le hgq (below_trans l hb').size) ((hb'.cell (p := ⟨gq, 0, none⟩) (Nat.lt_of_lt_of_le hgq l.size)).trans ((l.cell (p := ⟨gq, 0, none⟩) hgq).trans e0)) (hI0.below (below_trans l hb') (Nat.le_refl _)) hv0 hv0' hv1 hv1' ((hb'.cell (p := ⟨gq, 1, none⟩) (Nat.lt_of_lt_of_le hgq l.size)).trans ((l.cell (p := ⟨gq, 1, none⟩) hgq).trans e1)) (hI1.below (below_trans l hb') (Nat.le_refl _)) hv2 hv2' hv3 hv3' (by unfold loOf at y1; omega) (by unfold hiOf at y2; omega) hc1 hc2 ho1 ho2 (blk_below (blk_below b1_1 d) hb') (blk_below (blk_below b1_2 d) hb') (blk_below (blk_below br1_0 d) hb') (blk_below (blk_below b1_0 d) hb') (blk_below (blk_below b1_3 d) hb'))),
  fun f s W d h i j k a => opv rfl rfl (by simp [go_sem, a.e 16 (h 9 rfl)]) rfl, trivial⟩ ?_
 intro f2 s2 W2 hB2 g2 hg2
 have fB2 := hB2.f fB1
 have z2 := hB2.below.size
 have b2_0 := hB2.b b1_0
 have b2_1 := hB2.b b1_1
 have b2_2 := hB2.b b1_2
 have b2_3 := hB2.b b1_3
 have b2_4 := hB2.b br1_0
 refine hK2 _ _ ?_
 have k2_6 := kt hg2 6 (hB2.is 10)
 refine wp_ret ?_
 refine leave_one (N := 17) (v := .bool (someB 1 p3 off (fun p => okP ⟨(l1, h1), (l2, h2), (l3, h3), (l4, h4), (l5, h5), wo⟩ c off p [(v0, v1), (v2, v3)] 3))) (.inr rfl) Try.results77 rfl k2_6 ?_
 exact ⟨rfl, fB2⟩
end Go.Proofs.Ythnediamopehfaa
