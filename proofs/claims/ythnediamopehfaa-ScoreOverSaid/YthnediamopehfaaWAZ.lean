/- Part of the proof: what the claim leans on. -/
import Derived.Test.YthnediamopehfaaWAR
import Derived.Test.YthnediamopehfaaWAK
set_option linter.unusedSimpArgs false
set_option linter.unusedVariables false
namespace Go.Proofs.Ythnediamopehfaa
open Go.RowKit
/-- The smallest blank, the check that fails, and the error. -/
def blankOf (w : Wi) (clo chi tab : Int) : Bl × Int × Int :=
  let l := validOf (lengthsOf clo chi w.length 1); let wd := validOf (lengthsOf clo chi w.width 1); let h := validOf (lengthsOf clo chi w.height (foldsOf w.isOpen))
  let p := panelOf clo chi l w.inner; let q := panelOf clo chi wd w.outer
  let z : Bl := ⟨0, [], 0, [], [], 0, false⟩
  let at_ : Int := if w.isOpen = true then 7 else 5
  if decide (l.1 > l.2) = true then (z, 0, 9) else
  if decide (wd.1 > wd.2) = true then (z, 1, 9) else
  if decide (h.1 > h.2) = true then (z, 4, 9) else
  if (!q.2.2) = true then (z, at_, 9) else
  if (!p.2.2) = true then (z, at_ + 1, 9) else
  (⟨tab, [p.1, q.1, l.1, wd.1], h.1, if w.isOpen = true then [0, 0] else [q.2.1, p.2.1], [q.2.1, p.2.1], upI chi 1000, w.isOpen⟩, 0, 0)
def zeroBl : Value := .agg #[.int .i64 0, .slice none 0 0, .int .i64 0, .slice none 0 0, .slice none 0 0, .int .i64 0, .bool false]
def BlankP (r : Bl × Int × Int) (w : World) (e : Ending) (w' : World) : Prop :=
  (r.2.2 = 0 → ∃ v, e = .returned (.tuple #[v, .int .i64 r.2.1, .int .i64 r.2.2]) ∧ NwBlk w.heap.size r.1 v w' ∧ Below w.heap.size w w') ∧
  (r.2.2 ≠ 0 → e = .returned (.tuple #[zeroBl, .int .i64 r.2.1, .int .i64 r.2.2]) ∧ Below w.heap.size w w')
theorem lens_in {clo chi lo hi c : Int} (r1 : -3000 ≤ lo) (r2 : lo ≤ 3000) (r5 : 0 ≤ clo) (r6 : clo ≤ 10000) (r7 : 0 ≤ chi) (r8 : chi ≤ 10000) (r9 : 1 ≤ c) (r10 : c ≤ 2) : (lengthsOf clo chi (lo, hi) c).1 ≤ 10000 := by
  have q : 0 ≤ c * chi ∧ c * chi ≤ 20000 := by
    rcases (show c = 1 ∨ c = 2 by omega) with rfl | rfl <;> omega
  simp only [lengthsOf, upI]
  omega
theorem valid_in (s : Sp) (h : s.1 ≤ 10000) : 1 ≤ (validOf s).1 ∧ (validOf s).2 ≤ 3000 ∧ (validOf s).1 ≤ 10000 := by
  simp only [validOf, both, Int.max_def, Int.min_def]
  refine ⟨?_, ?_, ?_⟩ <;> split <;> omega
set_option maxRecDepth 100000 in
set_option maxHeartbeats 4000000 in
theorem make_any (l1 h1 l2 h2 l3 h3 l4 h4 l5 h5 clo chi : Int) (wo : Bool) (tab : Int) (w : World) (hw : WishIn ⟨(l1, h1), (l2, h2), (l3, h3), (l4, h4), (l5, h5), wo⟩) (r5 : 0 ≤ clo) (r6 : clo ≤ 10000) (r7 : 0 ≤ chi) (r8 : chi ≤ 10000) :
  Calls Try.prog 54 #[.agg #[.int .i64 l1, .int .i64 h1, .int .i64 l2, .int .i64 h2, .int .i64 l3, .int .i64 h3, .int .i64 l4, .int .i64 h4, .int .i64 l5, .int .i64 h5, .bool wo, .int .i64 clo, .int .i64 chi], .int .i64 tab] w (BlankP (blankOf ⟨(l1, h1), (l2, h2), (l3, h3), (l4, h4), (l5, h5), wo⟩ clo chi tab) w) := by
 have b1 : -10000 ≤ l1 ∧ l1 ≤ 10000 ∧ -10000 ≤ h1 ∧ h1 ≤ 10000 := by have h := hw (l1, h1) (by simp); simp only at h; omega
 have b2 : -10000 ≤ l2 ∧ l2 ≤ 10000 ∧ -10000 ≤ h2 ∧ h2 ≤ 10000 := by have h := hw (l2, h2) (by simp); simp only at h; omega
 have b3 : -10000 ≤ l3 ∧ l3 ≤ 10000 ∧ -10000 ≤ h3 ∧ h3 ≤ 10000 := by have h := hw (l3, h3) (by simp); simp only at h; omega
 have b4 : -10000 ≤ l4 ∧ l4 ≤ 10000 ∧ -10000 ≤ h4 ∧ h4 ≤ 10000 := by have h := hw (l4, h4) (by simp); simp only at h; omega
 have b5 : -10000 ≤ l5 ∧ l5 ≤ 10000 ∧ -10000 ≤ h5 ∧ h5 ≤ 10000 := by have h := hw (l5, h5) (by simp); simp only at h; omega
 have hf : 1 ≤ foldsOf wo ∧ foldsOf wo ≤ 2 := by unfold foldsOf; split <;> omega
 obtain ⟨v1, hv1⟩ : ∃ x, x = validOf (lengthsOf clo chi (l1, h1) 1) := ⟨_, rfl⟩
 obtain ⟨v2, hv2⟩ : ∃ x, x = validOf (lengthsOf clo chi (l2, h2) 1) := ⟨_, rfl⟩
 obtain ⟨v3, hv3⟩ : ∃ x, x = validOf (lengthsOf clo chi (l3, h3) (foldsOf wo)) := ⟨_, rfl⟩
 obtain ⟨p1, hp1⟩ : ∃ x, x = panelOf clo chi v1 (l5, h5) := ⟨_, rfl⟩
 obtain ⟨p2, hp2⟩ : ∃ x, x = panelOf clo chi v2 (l4, h4) := ⟨_, rfl⟩
 have q1 := hv1 ▸ valid_in (lengthsOf clo chi (l1, h1) 1) (lens_in (by have h := hw (l1, h1) (by simp); simp only at h; omega) (by have h := hw (l1, h1) (by simp); simp only at h; omega) r5 r6 r7 r8 (by omega) (by omega))
 have q2 := hv2 ▸ valid_in (lengthsOf clo chi (l2, h2) 1) (lens_in (by have h := hw (l2, h2) (by simp); simp only at h; omega) (by have h := hw (l2, h2) (by simp); simp only at h; omega) r5 r6 r7 r8 (by omega) (by omega))
 refine calls_fr Try.func54 Try.ntmps54 rfl rfl fun g hg => ?_
 have k0 : g 0 = .agg #[.int .i64 l1, .int .i64 h1, .int .i64 l2, .int .i64 h2, .int .i64 l3, .int .i64 h3, .int .i64 l4, .int .i64 h4, .int .i64 l5, .int .i64 h5, .bool wo, .int .i64 clo, .int .i64 chi] := hg 0
 have k1 : g 1 = .int .i64 tab := hg 1
 clear hg
 have fB0 : Below w.heap.size w w := Below.refl _ _
 refine wp_seq_k fun K1 hK1 => ?_
 refine region_dk 4 [(2, 0), (4, 1), (5, 2), (6, 3)] [[], [], [], [2]] (rel [bx 0 #[.int .i64 l1, .int .i64 h1, .int .i64 l2, .int .i64 h2, .int .i64 l3, .int .i64 h3, .int .i64 l4, .int .i64 h4, .int .i64 l5, .int .i64 h5, .bool wo, .int .i64 clo, .int .i64 chi] 101,
   bx 1 #[.int .i64 0, .slice (none) (0) (0), .int .i64 0, .slice (none) (0) (0), .slice (none) (0) (0), .int .i64 0, .bool false] 24,
   is (.int .i64 0),
   is (.int .i64 0)])
  ⟨bx_k, bx_k, is_k, is_k, trivial⟩
  ⟨fun f s W c d hs i a ha => opb rfl rfl (by simp [go_sem, ha.e 0 k0]),
  fun f s W c d hs i a ha => opb rfl rfl (by simp [go_sem]),
  fun f s W c d hs i a ha => opv rfl rfl (by simp [go_sem]) rfl,
  fun f s W c d hs i a ha => opv rfl rfl (by simp [go_sem]) rfl, trivial⟩ ?_
 intro f1 s1 W1 hB1 g1 hg1
 have fB1 := hB1.f fB0
 have z1 := hB1.below.size
 obtain ⟨r1_0, br1_0⟩ := hB1.is 0
 have lr1_0 := hB1.lr 0 br1_0
 obtain ⟨r1_1, br1_1⟩ := hB1.is 1
 have lr1_1 := hB1.lr 1 br1_1
 have ne1_0_1 : s1 0 ≠ s1 1 := hB1.ne 0 1 (by decide) (by decide) (by decide) (fun _ _ _ h => lt_of_blk h.2) (fun _ _ _ h => lt_of_blk h.2)
 refine hK1 _ _ ?_
 have k1_1 := kt hg1 1 k1
 have k1_2 := kt hg1 2 r1_0
 have k1_4 := kt hg1 4 r1_1
 have k1_5 := kt hg1 5 (hB1.is 2)
 have k1_6 := kt hg1 6 (hB1.is 3)
 refine wp_seq_k fun K2 hK2 => ?_
 refine region_dk 7 [(21, 0), (22, 1), (23, 2), (24, 3), (25, 4), (26, 5), (7, 6)] [[], [0], [0, 1], [0, 1, 2], [0, 1, 2, 3], [0, 1, 2, 3, 4], [0, 1, 2, 3, 4, 5]] (rel [is (.pointer (some ⟨(s1 0), 0, none⟩)),
   is (.pointer (some ⟨(s1 0), 10, none⟩)),
   is (.bool wo),
   is (.agg #[.int .i64 0, .slice (none) (0) (0), .int .i64 0, .slice (none) (0) (0), .slice (none) (0) (0), .int .i64 0, .bool wo]),
   is (.agg #[.int .i64 0, .slice (none) (0) (0), .int .i64 0, .slice (none) (0) (0), .slice (none) (0) (0), .int .i64 0, .bool wo]),
   is (.int .i64 (foldsOf wo)),
   is (.int .i64 (foldsOf wo))])
  ⟨is_k, is_k, is_k, is_k, is_k, is_k, is_k, trivial⟩
  ⟨fun f s W c d hs i a ha => opv rfl rfl (by simp [go_sem, ha.e 2 k1_2]) rfl,
  fun f s W c d hs i a ha => opv rfl rfl (by simp [go_sem, ha.e 21 (d 0 rfl)]) rfl,
  fun f s W c d hs i a ha => opv rfl rfl (by simp [go_sem, ha.e 22 (d 1 rfl), cb br1_0 c 10]) rfl,
  fun f s W c d hs i a ha => opv rfl rfl (by simp [go_sem, ha.e 23 (d 2 rfl)]) rfl,
  fun f s W c d hs i a ha => opv rfl rfl (by simp [go_sem, ha.e 24 (d 3 rfl)]) rfl,
  fun f s W c d hs i a ha => opc (args := #[.agg #[.int .i64 0, .slice (none) (0) (0), .int .i64 0, .slice (none) (0) (0), .slice (none) (0) (0), .int .i64 0, .bool wo]]) rfl rfl (by simp [go_sem, ha.e 25 (d 4 rfl)]) (folds_any _ _ _ _ _ _ wo W),
  fun f s W c d hs i a ha => opv rfl rfl (by simp [go_sem, ha.e 26 (d 5 rfl)]) rfl, trivial⟩ ?_
 intro f2 s2 W2 hB2 g2 hg2
 have fB2 := hB2.f fB1
 have z2 := hB2.below.size
 have b2_0 := hB2.b br1_0
 have b2_1 := hB2.b br1_1
 refine hK2 _ _ ?_
 have k2_1 := kt hg2 1 k1_1
 have k2_2 := kt hg2 2 k1_2
 have k2_4 := kt hg2 4 k1_4
 have k2_5 := kt hg2 5 k1_5
 have k2_6 := kt hg2 6 k1_6
 have k2_7 := kt hg2 7 (hB2.is 6)
 refine wp_seq_k fun K3 hK3 => ?_
 refine region_dk 22 [(27, 0), (28, 1), (29, 2), (30, 3), (31, 4), (32, 5), (33, 6), (34, 7), (35, 8), (36, 9), (37, 10), (38, 11), (39, 12), (40, 13), (41, 14), (42, 15), (43, 16), (44, 17), (45, 18), (8, 19), (9, 20), (10, 21)] [[], [], [1], [1, 2], [0, 1, 2, 3], [0, 1, 2, 3, 4], [], [], [7], [7, 8], [0, 1, 2, 3, 4, 5, 6, 7, 8, 9], [0, 1, 2, 3, 4, 5, 6, 7, 8, 9, 10], [], [], [13], [13, 14], [], [0, 1, 2, 3, 4, 5, 6, 7, 8, 9, 10, 11, 12, 13, 14, 15, 16], [0, 1, 2, 3, 4, 5, 6, 7, 8, 9, 10, 11, 12, 13, 14, 15, 16, 17], [], [], [], [0, 1, 2, 3, 4, 5, 6, 7, 8, 9, 10, 11, 12, 13, 14, 15, 16, 17, 18, 19, 20, 21], [0, 1, 2, 3, 4, 5, 6, 7, 8, 9, 10, 11, 12, 13, 14, 15, 16, 17, 18, 19, 20, 21, 22], [0, 1, 2, 3, 4, 5, 6, 7, 8, 9, 10, 11, 12, 13, 14, 15, 16, 17, 18, 19, 20, 21, 22, 23]] (rel [is (.agg #[.int .i64 l1, .int .i64 h1, .int .i64 l2, .int .i64 h2, .int .i64 l3, .int .i64 h3, .int .i64 l4, .int .i64 h4, .int .i64 l5, .int .i64 h5, .bool wo, .int .i64 clo, .int .i64 chi]),
   is (.pointer (some ⟨(s1 0), 0, none⟩)),
   is (.pointer (some ⟨(s1 0), 0, none⟩)),
   is (.agg #[.int .i64 l1, .int .i64 h1]),
   is (.agg #[.int .i64 ((lengthsOf clo chi (l1, h1) 1).1), .int .i64 ((lengthsOf clo chi (l1, h1) 1).2)]),
   is (.agg #[.int .i64 v1.1, .int .i64 v1.2]),
   is (.agg #[.int .i64 l1, .int .i64 h1, .int .i64 l2, .int .i64 h2, .int .i64 l3, .int .i64 h3, .int .i64 l4, .int .i64 h4, .int .i64 l5, .int .i64 h5, .bool wo, .int .i64 clo, .int .i64 chi]),
   is (.pointer (some ⟨(s1 0), 0, none⟩)),
   is (.pointer (some ⟨(s1 0), 2, none⟩)),
   is (.agg #[.int .i64 l2, .int .i64 h2]),
   is (.agg #[.int .i64 ((lengthsOf clo chi (l2, h2) 1).1), .int .i64 ((lengthsOf clo chi (l2, h2) 1).2)]),
   is (.agg #[.int .i64 v2.1, .int .i64 v2.2]),
   is (.agg #[.int .i64 l1, .int .i64 h1, .int .i64 l2, .int .i64 h2, .int .i64 l3, .int .i64 h3, .int .i64 l4, .int .i64 h4, .int .i64 l5, .int .i64 h5, .bool wo, .int .i64 clo, .int .i64 chi]),
   is (.pointer (some ⟨(s1 0), 0, none⟩)),
   is (.pointer (some ⟨(s1 0), 4, none⟩)),
   is (.agg #[.int .i64 l3, .int .i64 h3]),
   is (.int .i64 (foldsOf wo)),
   is (.agg #[.int .i64 ((lengthsOf clo chi (l3, h3) (foldsOf wo)).1), .int .i64 ((lengthsOf clo chi (l3, h3) (foldsOf wo)).2)]),
   is (.agg #[.int .i64 v3.1, .int .i64 v3.2]),
   bx 19 #[.int .i64 0, .int .i64 0] 37,
   bx 20 #[.int .i64 0, .int .i64 0] 37,
   bx 21 #[.int .i64 0, .int .i64 0] 37])
  ⟨is_k, is_k, is_k, is_k, is_k, is_k, is_k, is_k, is_k, is_k, is_k, is_k, is_k, is_k, is_k, is_k, is_k, is_k, is_k, bx_k, bx_k, bx_k, trivial⟩
  ⟨fun f s W c d hs i a ha => opv rfl rfl (by simp [go_sem, ha.e 2 k2_2, cb b2_0 c 0, cb b2_0 c 1, cb b2_0 c 2, cb b2_0 c 3, cb b2_0 c 4, cb b2_0 c 5, cb b2_0 c 6, cb b2_0 c 7, cb b2_0 c 8, cb b2_0 c 9, cb b2_0 c 10, cb b2_0 c 11, cb b2_0 c 12]) rfl,
  fun f s W c d hs i a ha => opv rfl rfl (by simp [go_sem, ha.e 2 k2_2]) rfl,
  fun f s W c d hs i a ha => opv rfl rfl (by simp [go_sem, ha.e 28 (d 1 rfl)]) rfl,
  fun f s W c d hs i a ha => opv rfl rfl (by simp [go_sem, ha.e 29 (d 2 rfl), cb b2_0 c 0, cb b2_0 c 1]) rfl,
  fun f s W c d hs i a ha => opc rfl rfl (by simp [go_sem, ha.e 27 (d 0 rfl), ha.e 30 (d 3 rfl)]) (lengths_any l1 h1 l2 h2 l3 h3 l4 h4 l5 h5 clo chi wo l1 h1 (1) W b1.1 b1.2.1 b1.2.2.1 b1.2.2.2 r5 r6 r7 r8 (by omega) (by omega)),
  fun f s W c d hs i a ha => opc rfl rfl (by simp [go_sem, ha.e 31 (d 4 rfl)]) (hv1 ▸ valid_any (lengthsOf clo chi (l1, h1) 1).1 (lengthsOf clo chi (l1, h1) 1).2 W),
  fun f s W c d hs i a ha => opv rfl rfl (by simp [go_sem, ha.e 2 k2_2, cb b2_0 c 0, cb b2_0 c 1, cb b2_0 c 2, cb b2_0 c 3, cb b2_0 c 4, cb b2_0 c 5, cb b2_0 c 6, cb b2_0 c 7, cb b2_0 c 8, cb b2_0 c 9, cb b2_0 c 10, cb b2_0 c 11, cb b2_0 c 12]) rfl,
  fun f s W c d hs i a ha => opv rfl rfl (by simp [go_sem, ha.e 2 k2_2]) rfl,
  fun f s W c d hs i a ha => opv rfl rfl (by simp [go_sem, ha.e 34 (d 7 rfl)]) rfl,
  fun f s W c d hs i a ha => opv rfl rfl (by simp [go_sem, ha.e 35 (d 8 rfl), cb b2_0 c 2, cb b2_0 c 3]) rfl,
  fun f s W c d hs i a ha => opc rfl rfl (by simp [go_sem, ha.e 33 (d 6 rfl), ha.e 36 (d 9 rfl)]) (lengths_any l1 h1 l2 h2 l3 h3 l4 h4 l5 h5 clo chi wo l2 h2 (1) W b2.1 b2.2.1 b2.2.2.1 b2.2.2.2 r5 r6 r7 r8 (by omega) (by omega)),
  fun f s W c d hs i a ha => opc rfl rfl (by simp [go_sem, ha.e 37 (d 10 rfl)]) (hv2 ▸ valid_any (lengthsOf clo chi (l2, h2) 1).1 (lengthsOf clo chi (l2, h2) 1).2 W),
  fun f s W c d hs i a ha => opv rfl rfl (by simp [go_sem, ha.e 2 k2_2, cb b2_0 c 0, cb b2_0 c 1, cb b2_0 c 2, cb b2_0 c 3, cb b2_0 c 4, cb b2_0 c 5, cb b2_0 c 6, cb b2_0 c 7, cb b2_0 c 8, cb b2_0 c 9, cb b2_0 c 10, cb b2_0 c 11, cb b2_0 c 12]) rfl,
  fun f s W c d hs i a ha => opv rfl rfl (by simp [go_sem, ha.e 2 k2_2]) rfl,
  fun f s W c d hs i a ha => opv rfl rfl (by simp [go_sem, ha.e 40 (d 13 rfl)]) rfl,
  fun f s W c d hs i a ha => opv rfl rfl (by simp [go_sem, ha.e 41 (d 14 rfl), cb b2_0 c 4, cb b2_0 c 5]) rfl,
  fun f s W c d hs i a ha => opv rfl rfl (by simp [go_sem, ha.e 7 k2_7]) rfl,
  fun f s W c d hs i a ha => opc rfl rfl (by simp [go_sem, ha.e 39 (d 12 rfl), ha.e 42 (d 15 rfl), ha.e 43 (d 16 rfl)]) (lengths_any l1 h1 l2 h2 l3 h3 l4 h4 l5 h5 clo chi wo l3 h3 (foldsOf wo) W b3.1 b3.2.1 b3.2.2.1 b3.2.2.2 r5 r6 r7 r8 (by omega) (by omega)),
  fun f s W c d hs i a ha => opc rfl rfl (by simp [go_sem, ha.e 44 (d 17 rfl)]) (hv3 ▸ valid_any (lengthsOf clo chi (l3, h3) (foldsOf wo)).1 (lengthsOf clo chi (l3, h3) (foldsOf wo)).2 W),
  fun f s W c d hs i a ha => opb rfl rfl (by simp [go_sem]),
  fun f s W c d hs i a ha => opb rfl rfl (by simp [go_sem]),
  fun f s W c d hs i a ha => opb rfl rfl (by simp [go_sem]), trivial⟩ ?_
 intro f3 s3 W3 hB3 g3 hg3
 have fB3 := hB3.f fB2
 have z3 := hB3.below.size
 have b3_0 := hB3.b b2_0
 have b3_1 := hB3.b b2_1
 obtain ⟨r3_19, br3_19⟩ := hB3.is 19
 have lr3_19 := hB3.lr 19 br3_19
 obtain ⟨r3_20, br3_20⟩ := hB3.is 20
 have lr3_20 := hB3.lr 20 br3_20
 obtain ⟨r3_21, br3_21⟩ := hB3.is 21
 have lr3_21 := hB3.lr 21 br3_21
 have ne3_19_20 : s3 19 ≠ s3 20 := hB3.ne 19 20 (by decide) (by decide) (by decide) (fun _ _ _ h => lt_of_blk h.2) (fun _ _ _ h => lt_of_blk h.2)
 have ne3_19_21 : s3 19 ≠ s3 21 := hB3.ne 19 21 (by decide) (by decide) (by decide) (fun _ _ _ h => lt_of_blk h.2) (fun _ _ _ h => lt_of_blk h.2)
 have ne3_20_21 : s3 20 ≠ s3 21 := hB3.ne 20 21 (by decide) (by decide) (by decide) (fun _ _ _ h => lt_of_blk h.2) (fun _ _ _ h => lt_of_blk h.2)
 have k3_1 := kt hg3 1 k2_1
 have k3_2 := kt hg3 2 k2_2
 have k3_4 := kt hg3 4 k2_4
 have k3_5 := kt hg3 5 k2_5
 have k3_6 := kt hg3 6 k2_6
 have k3_32 := kt hg3 32 (hB3.is 5)
 have k3_38 := kt hg3 38 (hB3.is 11)
 have k3_45 := kt hg3 45 (hB3.is 18)
 have k3_8 := kt hg3 8 r3_19
 have k3_9 := kt hg3 9 r3_20
 have k3_10 := kt hg3 10 r3_21
 obtain ⟨W4, hW4⟩ : ∃ W', W' = W3.setRow (s3 19) #[.int .i64 v1.1, .int .i64 v1.2] := ⟨_, rfl⟩
 refine tail_skip (o := _) rfl ⟨rfl, rfl⟩ (run_seg hW4 (fr_ev k3_8) (fr_ev k3_32) br3_19 rfl rfl rfl rfl) ?_
 obtain ⟨fB4, nb4, ot4, z4⟩ := seg_facts hW4 fB3 br3_19 (by omega)
 clear hW4
 have b4_0 := ot4 _ _ (by omega) b3_0
 have b4_1 := ot4 _ _ (by omega) b3_1
 have b4_3 := ot4 _ _ (by omega) br3_20
 have b4_4 := ot4 _ _ (by omega) br3_21
 obtain ⟨W5, hW5⟩ : ∃ W', W' = W4.setRow (s3 20) #[.int .i64 v2.1, .int .i64 v2.2] := ⟨_, rfl⟩
 refine tail_skip (o := _) rfl ⟨rfl, rfl⟩ (run_seg hW5 (fr_ev k3_9) (fr_ev k3_38) b4_3 rfl rfl rfl rfl) ?_
 obtain ⟨fB5, nb5, ot5, z5⟩ := seg_facts hW5 fB4 b4_3 (by omega)
 clear hW5
 have b5_0 := ot5 _ _ (by omega) b4_0
 have b5_1 := ot5 _ _ (by omega) b4_1
 have b5_2 := ot5 _ _ (by omega) nb4
 have b5_4 := ot5 _ _ (by omega) b4_4
 obtain ⟨W6, hW6⟩ : ∃ W', W' = W5.setRow (s3 21) #[.int .i64 v3.1, .int .i64 v3.2] := ⟨_, rfl⟩
 refine tail_skip (o := _) rfl ⟨rfl, rfl⟩ (run_seg hW6 (fr_ev k3_10) (fr_ev k3_45) b5_4 rfl rfl rfl rfl) ?_
 obtain ⟨fB6, nb6, ot6, z6⟩ := seg_facts hW6 fB5 b5_4 (by omega)
 clear hW6
 have b6_0 := ot6 _ _ (by omega) b5_0
 have b6_1 := ot6 _ _ (by omega) b5_1
 have b6_2 := ot6 _ _ (by omega) b5_2
 have b6_3 := ot6 _ _ (by omega) nb5
 refine wpOps_end ?_
 refine hK3 _ _ ?_
 refine wp_seq_k fun K4 hK4 => ?_
 refine region_dk 13 [(47, 0), (48, 1), (49, 2), (50, 3), (51, 4), (52, 5), (46, 6), (53, 7), (54, 8), (55, 9), (11, 10), (12, 11), (13, 12)] [[], [], [], [2], [2, 3], [0, 1, 2, 3, 4], [0, 1, 2, 3, 4, 5], [0, 1, 2, 3, 4, 5, 6], [0, 1, 2, 3, 4, 5, 6], [0, 1, 2, 3, 4, 5, 6], [0, 1, 2, 3, 4, 5, 6, 7], [0, 1, 2, 3, 4, 5, 6, 7, 8, 10], [0, 1, 2, 3, 4, 5, 6, 7, 8, 9, 10, 11]] (rel [is (.agg #[.int .i64 l1, .int .i64 h1, .int .i64 l2, .int .i64 h2, .int .i64 l3, .int .i64 h3, .int .i64 l4, .int .i64 h4, .int .i64 l5, .int .i64 h5, .bool wo, .int .i64 clo, .int .i64 chi]),
   is (.agg #[.int .i64 v1.1, .int .i64 v1.2]),
   is (.pointer (some ⟨(s1 0), 0, none⟩)),
   is (.pointer (some ⟨(s1 0), 8, none⟩)),
   is (.agg #[.int .i64 l5, .int .i64 h5]),
   is (.tuple #[.int .i64 p1.1, .int .i64 p1.2.1, .bool p1.2.2]),
   is (.tuple #[.int .i64 p1.1, .int .i64 p1.2.1, .bool p1.2.2]),
   is (.int .i64 p1.1),
   is (.int .i64 p1.2.1),
   is (.bool p1.2.2),
   is (.int .i64 p1.1),
   is (.int .i64 p1.2.1),
   is (.bool p1.2.2)])
  ⟨is_k, is_k, is_k, is_k, is_k, is_k, is_k, is_k, is_k, is_k, is_k, is_k, is_k, trivial⟩
  ⟨fun f s W c d hs i a ha => opv rfl rfl (by simp [go_sem, ha.e 2 k3_2, cb b6_0 c 0, cb b6_0 c 1, cb b6_0 c 2, cb b6_0 c 3, cb b6_0 c 4, cb b6_0 c 5, cb b6_0 c 6, cb b6_0 c 7, cb b6_0 c 8, cb b6_0 c 9, cb b6_0 c 10, cb b6_0 c 11, cb b6_0 c 12]) rfl,
  fun f s W c d hs i a ha => opv rfl rfl (by simp [go_sem, ha.e 8 k3_8, cb b6_2 c 0, cb b6_2 c 1]) rfl,
  fun f s W c d hs i a ha => opv rfl rfl (by simp [go_sem, ha.e 2 k3_2]) rfl,
  fun f s W c d hs i a ha => opv rfl rfl (by simp [go_sem, ha.e 49 (d 2 rfl)]) rfl,
  fun f s W c d hs i a ha => opv rfl rfl (by simp [go_sem, ha.e 50 (d 3 rfl), cb b6_0 c 8, cb b6_0 c 9]) rfl,
  fun f s W c d hs i a ha => opc rfl rfl (by simp [go_sem, ha.e 47 (d 0 rfl), ha.e 48 (d 1 rfl), ha.e 51 (d 4 rfl)]) (hp1 ▸ panel_any l1 h1 l2 h2 l3 h3 l4 h4 l5 h5 clo chi wo v1.1 v1.2 l5 h5 W b5.1 b5.2.1 b5.2.2.1 b5.2.2.2 r5 r6 r7 r8 q1.1 q1.2.1 q1.2.2),
  fun f s W c d hs i a ha => opv rfl rfl (by simp [go_sem, ha.e 52 (d 5 rfl)]) rfl,
  fun f s W c d hs i a ha => opv rfl rfl (by simp [go_sem, ha.e 46 (d 6 rfl)]) rfl,
  fun f s W c d hs i a ha => opv rfl rfl (by simp [go_sem, ha.e 46 (d 6 rfl)]) rfl,
  fun f s W c d hs i a ha => opv rfl rfl (by simp [go_sem, ha.e 46 (d 6 rfl)]) rfl,
  fun f s W c d hs i a ha => opv rfl rfl (by simp [go_sem, ha.e 53 (d 7 rfl)]) rfl,
  fun f s W c d hs i a ha => opv rfl rfl (by simp [go_sem, ha.e 54 (d 8 rfl)]) rfl,
  fun f s W c d hs i a ha => opv rfl rfl (by simp [go_sem, ha.e 55 (d 9 rfl)]) rfl, trivial⟩ ?_
 intro f7 s7 W7 hB7 g7 hg7
 have fB7 := hB7.f fB6
 have z7 := hB7.below.size
 have b7_0 := hB7.b b6_0
 have b7_1 := hB7.b b6_1
 have b7_2 := hB7.b b6_2
 have b7_3 := hB7.b b6_3
 have b7_4 := hB7.b nb6
 refine hK4 _ _ ?_
 have k7_1 := kt hg7 1 k3_1
 have k7_2 := kt hg7 2 k3_2
 have k7_4 := kt hg7 4 k3_4
 have k7_5 := kt hg7 5 k3_5
 have k7_6 := kt hg7 6 k3_6
 have k7_8 := kt hg7 8 k3_8
 have k7_9 := kt hg7 9 k3_9
 have k7_10 := kt hg7 10 k3_10
 have k7_11 := kt hg7 11 (hB7.is 10)
 have k7_12 := kt hg7 12 (hB7.is 11)
 have k7_13 := kt hg7 13 (hB7.is 12)
 refine wp_seq_k fun K5 hK5 => ?_
 refine region_dk 13 [(57, 0), (58, 1), (59, 2), (60, 3), (61, 4), (62, 5), (56, 6), (63, 7), (64, 8), (65, 9), (14, 10), (15, 11), (16, 12)] [[], [], [], [2], [2, 3], [0, 1, 2, 3, 4], [0, 1, 2, 3, 4, 5], [0, 1, 2, 3, 4, 5, 6], [0, 1, 2, 3, 4, 5, 6], [0, 1, 2, 3, 4, 5, 6], [0, 1, 2, 3, 4, 5, 6, 7], [0, 1, 2, 3, 4, 5, 6, 7, 8, 10], [0, 1, 2, 3, 4, 5, 6, 7, 8, 9, 10, 11]] (rel [is (.agg #[.int .i64 l1, .int .i64 h1, .int .i64 l2, .int .i64 h2, .int .i64 l3, .int .i64 h3, .int .i64 l4, .int .i64 h4, .int .i64 l5, .int .i64 h5, .bool wo, .int .i64 clo, .int .i64 chi]),
   is (.agg #[.int .i64 v2.1, .int .i64 v2.2]),
   is (.pointer (some ⟨(s1 0), 0, none⟩)),
   is (.pointer (some ⟨(s1 0), 6, none⟩)),
   is (.agg #[.int .i64 l4, .int .i64 h4]),
   is (.tuple #[.int .i64 p2.1, .int .i64 p2.2.1, .bool p2.2.2]),
   is (.tuple #[.int .i64 p2.1, .int .i64 p2.2.1, .bool p2.2.2]),
   is (.int .i64 p2.1),
   is (.int .i64 p2.2.1),
   is (.bool p2.2.2),
   is (.int .i64 p2.1),
   is (.int .i64 p2.2.1),
   is (.bool p2.2.2)])
  ⟨is_k, is_k, is_k, is_k, is_k, is_k, is_k, is_k, is_k, is_k, is_k, is_k, is_k, trivial⟩
  ⟨fun f s W c d hs i a ha => opv rfl rfl (by simp [go_sem, ha.e 2 k7_2, cb b7_0 c 0, cb b7_0 c 1, cb b7_0 c 2, cb b7_0 c 3, cb b7_0 c 4, cb b7_0 c 5, cb b7_0 c 6, cb b7_0 c 7, cb b7_0 c 8, cb b7_0 c 9, cb b7_0 c 10, cb b7_0 c 11, cb b7_0 c 12]) rfl,
  fun f s W c d hs i a ha => opv rfl rfl (by simp [go_sem, ha.e 9 k7_9, cb b7_3 c 0, cb b7_3 c 1]) rfl,
  fun f s W c d hs i a ha => opv rfl rfl (by simp [go_sem, ha.e 2 k7_2]) rfl,
  fun f s W c d hs i a ha => opv rfl rfl (by simp [go_sem, ha.e 59 (d 2 rfl)]) rfl,
  fun f s W c d hs i a ha => opv rfl rfl (by simp [go_sem, ha.e 60 (d 3 rfl), cb b7_0 c 6, cb b7_0 c 7]) rfl,
  fun f s W c d hs i a ha => opc rfl rfl (by simp [go_sem, ha.e 57 (d 0 rfl), ha.e 58 (d 1 rfl), ha.e 61 (d 4 rfl)]) (hp2 ▸ panel_any l1 h1 l2 h2 l3 h3 l4 h4 l5 h5 clo chi wo v2.1 v2.2 l4 h4 W b4.1 b4.2.1 b4.2.2.1 b4.2.2.2 r5 r6 r7 r8 q2.1 q2.2.1 q2.2.2),
  fun f s W c d hs i a ha => opv rfl rfl (by simp [go_sem, ha.e 62 (d 5 rfl)]) rfl,
  fun f s W c d hs i a ha => opv rfl rfl (by simp [go_sem, ha.e 56 (d 6 rfl)]) rfl,
  fun f s W c d hs i a ha => opv rfl rfl (by simp [go_sem, ha.e 56 (d 6 rfl)]) rfl,
  fun f s W c d hs i a ha => opv rfl rfl (by simp [go_sem, ha.e 56 (d 6 rfl)]) rfl,
  fun f s W c d hs i a ha => opv rfl rfl (by simp [go_sem, ha.e 63 (d 7 rfl)]) rfl,
  fun f s W c d hs i a ha => opv rfl rfl (by simp [go_sem, ha.e 64 (d 8 rfl)]) rfl,
  fun f s W c d hs i a ha => opv rfl rfl (by simp [go_sem, ha.e 65 (d 9 rfl)]) rfl, trivial⟩ ?_
 intro f8 s8 W8 hB8 g8 hg8
 have fB8 := hB8.f fB7
 have z8 := hB8.below.size
 have b8_0 := hB8.b b7_0
 have b8_1 := hB8.b b7_1
 have b8_2 := hB8.b b7_2
 have b8_3 := hB8.b b7_3
 have b8_4 := hB8.b b7_4
 refine hK5 _ _ ?_
 have k8_1 := kt hg8 1 k7_1
 have k8_2 := kt hg8 2 k7_2
 have k8_4 := kt hg8 4 k7_4
 have k8_5 := kt hg8 5 k7_5
 have k8_6 := kt hg8 6 k7_6
 have k8_8 := kt hg8 8 k7_8
 have k8_9 := kt hg8 9 k7_9
 have k8_10 := kt hg8 10 k7_10
 have k8_11 := kt hg8 11 k7_11
 have k8_12 := kt hg8 12 k7_12
 have k8_13 := kt hg8 13 k7_13
 have k8_14 := kt hg8 14 (hB8.is 10)
 have k8_15 := kt hg8 15 (hB8.is 11)
 have k8_16 := kt hg8 16 (hB8.is 12)
 refine wp_seq_k fun K6 hK6 => ?_
 refine region_dk 1 [(17, 0)] [[]] (rel [is (.int .i64 5)])
  ⟨is_k, trivial⟩
  ⟨fun f s W c d hs i a ha => opv rfl rfl (by simp [go_sem]) rfl, trivial⟩ ?_
 intro f9 s9 W9 hB9 g9 hg9
 have fB9 := hB9.f fB8
 have z9 := hB9.below.size
 have b9_0 := hB9.b b8_0
 have b9_1 := hB9.b b8_1
 have b9_2 := hB9.b b8_2
 have b9_3 := hB9.b b8_3
 have b9_4 := hB9.b b8_4
 refine hK6 _ _ ?_
 have k9_1 := kt hg9 1 k8_1
 have k9_2 := kt hg9 2 k8_2
 have k9_4 := kt hg9 4 k8_4
 have k9_5 := kt hg9 5 k8_5
 have k9_6 := kt hg9 6 k8_6
 have k9_8 := kt hg9 8 k8_8
 have k9_9 := kt hg9 9 k8_9
 have k9_10 := kt hg9 10 k8_10
 have k9_11 := kt hg9 11 k8_11
 have k9_12 := kt hg9 12 k8_12
 have k9_13 := kt hg9 13 k8_13
 have k9_14 := kt hg9 14 k8_14
 have k9_15 := kt hg9 15 k8_15
 have k9_16 := kt hg9 16 k8_16
 have k9_17 := kt hg9 17 (hB9.is 0)
 refine wp_seq_k fun K7 hK7 => ?_
 suffices J1' : ∀ (g_ : Nat → Value) (W_ : World), (g_ 1 = .int .i64 tab ∧ g_ 2 = .pointer (some ⟨(s1 0), 0, none⟩) ∧ g_ 4 = .pointer (some ⟨(s1 1), 0, none⟩) ∧ g_ 5 = .int .i64 0 ∧ g_ 6 = .int .i64 0 ∧ g_ 8 = .pointer (some ⟨(s3 19), 0, none⟩) ∧ g_ 9 = .pointer (some ⟨(s3 20), 0, none⟩) ∧ g_ 10 = .pointer (some ⟨(s3 21), 0, none⟩) ∧ g_ 11 = .int .i64 p1.1 ∧ g_ 12 = .int .i64 p1.2.1 ∧ g_ 13 = .bool p1.2.2 ∧ g_ 14 = .int .i64 p2.1 ∧ g_ 15 = .int .i64 p2.2.1 ∧ g_ 16 = .bool p2.2.2 ∧ g_ 17 = .int .i64 (if wo = true then 7 else 5) ∧ Below w.heap.size w W_ ∧ W9.heap.size ≤ W_.heap.size ∧ W_.heap[(s1 0)]? = some (.cells #[.int .i64 l1, .int .i64 h1, .int .i64 l2, .int .i64 h2, .int .i64 l3, .int .i64 h3, .int .i64 l4, .int .i64 h4, .int .i64 l5, .int .i64 h5, .bool wo, .int .i64 clo, .int .i64 chi] 101 (0, 0)) ∧ W_.heap[(s1 1)]? = some (.cells #[.int .i64 0, .slice (none) (0) (0), .int .i64 0, .slice (none) (0) (0), .slice (none) (0) (0), .int .i64 0, .bool false] 24 (0, 0)) ∧ W_.heap[(s3 19)]? = some (.cells #[.int .i64 v1.1, .int .i64 v1.2] 37 (0, 0)) ∧ W_.heap[(s3 20)]? = some (.cells #[.int .i64 v2.1, .int .i64 v2.2] 37 (0, 0)) ∧ W_.heap[(s3 21)]? = some (.cells #[.int .i64 v3.1, .int .i64 v3.2] 37 (0, 0))) → K7 (fr 132 g_) W_ by
  refine wp_seq_k fun K8 hK8 => ?_
  refine region_dk 3 [(66, 0), (67, 1), (68, 2)] [[], [0], [0, 1]] (rel [is (.pointer (some ⟨(s1 0), 0, none⟩)),
   is (.pointer (some ⟨(s1 0), 10, none⟩)),
   is (.bool wo)])
   ⟨is_k, is_k, is_k, trivial⟩
   ⟨fun f s W c d hs i a ha => opv rfl rfl (by simp [go_sem, ha.e 2 k9_2]) rfl,
  fun f s W c d hs i a ha => opv rfl rfl (by simp [go_sem, ha.e 66 (d 0 rfl)]) rfl,
  fun f s W c d hs i a ha => opv rfl rfl (by simp [go_sem, ha.e 67 (d 1 rfl), cb b9_0 c 10]) rfl, trivial⟩ ?_
  intro f10 s10 W10 hB10 g10 hg10
  have fB10 := hB10.f fB9
  have z10 := hB10.below.size
  have b10_0 := hB10.b b9_0
  have b10_1 := hB10.b b9_1
  have b10_2 := hB10.b b9_2
  have b10_3 := hB10.b b9_3
  have b10_4 := hB10.b b9_4
  refine hK8 _ _ ?_
  have k10_1 := kt hg10 1 k9_1
  have k10_2 := kt hg10 2 k9_2
  have k10_4 := kt hg10 4 k9_4
  have k10_5 := kt hg10 5 k9_5
  have k10_6 := kt hg10 6 k9_6
  have k10_8 := kt hg10 8 k9_8
  have k10_9 := kt hg10 9 k9_9
  have k10_10 := kt hg10 10 k9_10
  have k10_11 := kt hg10 11 k9_11
  have k10_12 := kt hg10 12 k9_12
  have k10_13 := kt hg10 13 k9_13
  have k10_14 := kt hg10 14 k9_14
  have k10_15 := kt hg10 15 k9_15
  have k10_16 := kt hg10 16 k9_16
  have k10_17 := kt hg10 17 k9_17
  have k10_68 := kt hg10 68 (hB10.is 2)
  refine wp_cond_split (t := wo) ((fr_eval rfl).trans k10_68) (fun hc9 => ?_) (fun hc9 => ?_)
  ·
   have hc9' := hc9; try simp only [ba] at hc9'
   refine region_dk 3 [(69, 0), (70, 1), (17, 2)] [[], [0], [0, 1]] (rel [is (.int .i64 5),
   is (.int .i64 7),
   is (.int .i64 7)])
    ⟨is_k, is_k, is_k, trivial⟩
    ⟨fun f s W c d hs i a ha => opv rfl rfl (by simp [go_sem, ha.e 17 ((i 2 17 rfl rfl).trans k10_17)]) rfl,
  fun f s W c d hs i a ha => opv rfl rfl (by simp [go_sem, ha.e 69 (d 0 rfl), IntWalk.i64_in (7) (by omega)]) rfl,
  fun f s W c d hs i a ha => opv rfl rfl (by simp [go_sem, ha.e 70 (d 1 rfl)]) rfl, trivial⟩ ?_
   intro f11 s11 W11 hB11 g11 hg11
   have fB11 := hB11.f fB10
   have z11 := hB11.below.size
   have b11_0 := hB11.b b10_0
   have b11_1 := hB11.b b10_1
   have b11_2 := hB11.b b10_2
   have b11_3 := hB11.b b10_3
   have b11_4 := hB11.b b10_4
   refine wpOps_end ?_
   have k11_1 := kt hg11 1 k10_1
   have k11_2 := kt hg11 2 k10_2
   have k11_4 := kt hg11 4 k10_4
   have k11_5 := kt hg11 5 k10_5
   have k11_6 := kt hg11 6 k10_6
   have k11_8 := kt hg11 8 k10_8
   have k11_9 := kt hg11 9 k10_9
   have k11_10 := kt hg11 10 k10_10
   have k11_11 := kt hg11 11 k10_11
   have k11_12 := kt hg11 12 k10_12
   have k11_13 := kt hg11 13 k10_13
   have k11_14 := kt hg11 14 k10_14
   have k11_15 := kt hg11 15 k10_15
   have k11_16 := kt hg11 16 k10_16
   have k11_17 := kt hg11 17 (hB11.is 2)
   exact J1' _ _ ⟨k11_1, k11_2, k11_4, k11_5, k11_6, k11_8, k11_9, k11_10, k11_11, k11_12, k11_13, k11_14, k11_15, k11_16, k11_17.trans (by simp [hc9]), fB11, (by omega), b11_0, b11_1, b11_2, b11_3, b11_4⟩
  ·
   have hc9' := hc9; try simp only [ba] at hc9'
   refine wp_skip ?_
   exact J1' _ _ ⟨k10_1, k10_2, k10_4, k10_5, k10_6, k10_8, k10_9, k10_10, k10_11, k10_12, k10_13, k10_14, k10_15, k10_16, k10_17.trans (by simp [hc9]), fB10, (by omega), b10_0, b10_1, b10_2, b10_3, b10_4⟩
 rintro g_2 W_2 ⟨k_2_1, k_2_2, k_2_4, k_2_5, k_2_6, k_2_8, k_2_9, k_2_10, k_2_11, k_2_12, k_2_13, k_2_14, k_2_15, k_2_16, k_2_17, fB_2, z_2, b_2_0, b_2_1, b_2_2, b_2_3, b_2_4⟩
 refine hK7 _ _ ?_
 refine wp_seq_k fun K10 hK10 => ?_
 refine region_dk 20 [(71, 0), (72, 1), (73, 2), (74, 3), (75, 4), (76, 5), (77, 6), (78, 7), (79, 8), (80, 9), (81, 10), (82, 11), (83, 12), (84, 13), (85, 14), (86, 15), (87, 16), (88, 17), (89, 18), (18, 19)] [[], [0], [0, 1], [], [0, 1, 3], [0, 1, 3, 4], [], [0, 1, 3, 4, 6], [0, 1, 3, 4, 6, 7], [], [9], [], [9, 10, 11], [], [13], [], [15], [13, 14, 15, 16], [0, 1, 2, 3, 4, 5, 6, 7, 8, 9, 10, 11, 12, 13, 14, 15, 16, 17], [0, 1, 2, 3, 4, 5, 6, 7, 8, 9, 10, 11, 12, 13, 14, 15, 16, 17, 18]] (rel [is (.agg #[.int .i64 v1.1, .int .i64 v1.2]),
   is (.bool (decide (v1.1 > v1.2))),
   is (.agg #[.bool (decide (v1.1 > v1.2)), .int .i64 0]),
   is (.agg #[.int .i64 v2.1, .int .i64 v2.2]),
   is (.bool (decide (v2.1 > v2.2))),
   is (.agg #[.bool (decide (v2.1 > v2.2)), .int .i64 1]),
   is (.agg #[.int .i64 v3.1, .int .i64 v3.2]),
   is (.bool (decide (v3.1 > v3.2))),
   is (.agg #[.bool (decide (v3.1 > v3.2)), .int .i64 4]),
   is (.bool p2.2.2),
   is (.bool (!(p2.2.2))),
   is (.int .i64 (if wo = true then 7 else 5)),
   is (.agg #[.bool (!(p2.2.2)), .int .i64 (if wo = true then 7 else 5)]),
   is (.bool p1.2.2),
   is (.bool (!(p1.2.2))),
   is (.int .i64 (if wo = true then 7 else 5)),
   is (.int .i64 ((if wo = true then 7 else 5) + 1)),
   is (.agg #[.bool (!(p1.2.2)), .int .i64 ((if wo = true then 7 else 5) + 1)]),
   row 18 5 #[.bool (decide (v1.1 > v1.2)), .int .i64 0, .bool (decide (v2.1 > v2.2)), .int .i64 1, .bool (decide (v3.1 > v3.2)), .int .i64 4, .bool (!(p2.2.2)), .int .i64 (if wo = true then 7 else 5), .bool (!(p1.2.2)), .int .i64 ((if wo = true then 7 else 5) + 1)] 122,
   isS fun s => .slice (some ⟨(s 18), 0, none⟩) (5) (5)])
  ⟨is_k, is_k, is_k, is_k, is_k, is_k, is_k, is_k, is_k, is_k, is_k, is_k, is_k, is_k, is_k, is_k, is_k, is_k, row_k, isS_k fun s s' e => by rw [e 18 (by simp)], trivial⟩
  ⟨fun f s W c d hs i a ha => opv rfl rfl (by simp [go_sem, ha.e 8 k_2_8, cb b_2_2 c 0, cb b_2_2 c 1]) rfl,
  fun f s W c d hs i a ha => opc (args := #[.agg #[.int .i64 v1.1, .int .i64 v1.2]]) rfl rfl (by simp [go_sem, ha.e 71 (d 0 rfl)]) (isEmpty_any _ _ W),
  fun f s W c d hs i a ha => opv rfl rfl (by simp [go_sem, ha.e 72 (d 1 rfl)]) rfl,
  fun f s W c d hs i a ha => opv rfl rfl (by simp [go_sem, ha.e 9 k_2_9, cb b_2_3 c 0, cb b_2_3 c 1]) rfl,
  fun f s W c d hs i a ha => opc (args := #[.agg #[.int .i64 v2.1, .int .i64 v2.2]]) rfl rfl (by simp [go_sem, ha.e 74 (d 3 rfl)]) (isEmpty_any _ _ W),
  fun f s W c d hs i a ha => opv rfl rfl (by simp [go_sem, ha.e 75 (d 4 rfl)]) rfl,
  fun f s W c d hs i a ha => opv rfl rfl (by simp [go_sem, ha.e 10 k_2_10, cb b_2_4 c 0, cb b_2_4 c 1]) rfl,
  fun f s W c d hs i a ha => opc (args := #[.agg #[.int .i64 v3.1, .int .i64 v3.2]]) rfl rfl (by simp [go_sem, ha.e 77 (d 6 rfl)]) (isEmpty_any _ _ W),
  fun f s W c d hs i a ha => opv rfl rfl (by simp [go_sem, ha.e 78 (d 7 rfl)]) rfl,
  fun f s W c d hs i a ha => opv rfl rfl (by simp [go_sem, ha.e 16 k_2_16]) rfl,
  fun f s W c d hs i a ha => opv rfl rfl (by simp [go_sem, ha.e 80 (d 9 rfl)]) rfl,
  fun f s W c d hs i a ha => opv rfl rfl (by simp [go_sem, ha.e 17 k_2_17]) rfl,
  fun f s W c d hs i a ha => opv rfl rfl (by simp [go_sem, ha.e 81 (d 10 rfl), ha.e 82 (d 11 rfl)]) rfl,
  fun f s W c d hs i a ha => opv rfl rfl (by simp [go_sem, ha.e 13 k_2_13]) rfl,
  fun f s W c d hs i a ha => opv rfl rfl (by simp [go_sem, ha.e 84 (d 13 rfl)]) rfl,
  fun f s W c d hs i a ha => opv rfl rfl (by simp [go_sem, ha.e 17 k_2_17]) rfl,
  fun f s W c d hs i a ha => opv rfl rfl (by simp [go_sem, ha.e 86 (d 15 rfl), IntWalk.i64_in ((if wo = true then 7 else 5) + 1) (by omega)]) rfl,
  fun f s W c d hs i a ha => opv rfl rfl (by simp [go_sem, ha.e 85 (d 14 rfl), ha.e 87 (d 16 rfl)]) rfl,
  fun f s W c d hs i a ha => opr rfl rfl (by simp [go_sem, ha.e 73 (d 2 rfl), ha.e 76 (d 5 rfl), ha.e 79 (d 8 rfl), ha.e 83 (d 12 rfl), ha.e 88 (d 17 rfl)]),
  fun f s W c d hs i a ha => opv rfl rfl (by simp [go_sem, ha.e 89 (d 18 rfl).1, upd]) rfl, trivial⟩ ?_
 intro f12 s12 W12 hB12 g12 hg12
 have fB12 := hB12.f fB_2
 have z12 := hB12.below.size
 have b12_0 := hB12.b b_2_0
 have b12_1 := hB12.b b_2_1
 have b12_2 := hB12.b b_2_2
 have b12_3 := hB12.b b_2_3
 have b12_4 := hB12.b b_2_4
 obtain ⟨r12_18, br12_18⟩ := hB12.is 18
 have lr12_18 := hB12.lr 18 br12_18
 refine hK10 _ _ ?_
 have k12_1 := kt hg12 1 k_2_1
 have k12_2 := kt hg12 2 k_2_2
 have k12_4 := kt hg12 4 k_2_4
 have k12_5 := kt hg12 5 k_2_5
 have k12_6 := kt hg12 6 k_2_6
 have k12_8 := kt hg12 8 k_2_8
 have k12_9 := kt hg12 9 k_2_9
 have k12_10 := kt hg12 10 k_2_10
 have k12_11 := kt hg12 11 k_2_11
 have k12_12 := kt hg12 12 k_2_12
 have k12_14 := kt hg12 14 k_2_14
 have k12_15 := kt hg12 15 k_2_15
 have k12_18 := kt hg12 18 (hB12.is 19)
 refine wp_seq_k fun K11 hK11 => ?_
 refine wp_seq_k fun K12 hK12 => ?_
 refine region_dk 3 [(90, 0), (91, 1), (92, 2)] [[], [0], []] (rel [is (.slice (some ⟨(s12 18), 0, none⟩) (5) (5)),
   is (.int .i64 5),
   is (.int .i64 0)])
  ⟨is_k, is_k, is_k, trivial⟩
  ⟨fun f s W c d hs i a ha => opv rfl rfl (by simp [go_sem, ha.e 18 k12_18]) rfl,
  fun f s W c d hs i a ha => opv rfl rfl (by simp [go_sem, ha.e 90 (d 0 rfl)]) rfl,
  fun f s W c d hs i a ha => opv rfl rfl (by simp [go_sem]) rfl, trivial⟩ ?_
 intro f13 s13 W13 hB13 g13 hg13
 have fB13 := hB13.f fB12
 have z13 := hB13.below.size
 have b13_0 := hB13.b b12_0
 have b13_1 := hB13.b b12_1
 have b13_2 := hB13.b b12_2
 have b13_3 := hB13.b b12_3
 have b13_4 := hB13.b b12_4
 have b13_5 := hB13.b br12_18
 refine hK12 _ _ ?_
 have k13_1 := kt hg13 1 k12_1
 have k13_2 := kt hg13 2 k12_2
 have k13_4 := kt hg13 4 k12_4
 have k13_5 := kt hg13 5 k12_5
 have k13_6 := kt hg13 6 k12_6
 have k13_8 := kt hg13 8 k12_8
 have k13_9 := kt hg13 9 k12_9
 have k13_10 := kt hg13 10 k12_10
 have k13_11 := kt hg13 11 k12_11
 have k13_12 := kt hg13 12 k12_12
 have k13_14 := kt hg13 14 k12_14
 have k13_15 := kt hg13 15 k12_15
 have k13_90 := kt hg13 90 (hB13.is 0)
 have k13_91 := kt hg13 91 (hB13.is 1)
 have k13_92 := kt hg13 92 (hB13.is 2)
 refine wp_block ?_
 refine wp_loop_rounds 6 ?_
 rw [rounds_succ]
 refine wp_seq_k fun K13 hK13 => ?_
 refine region_dk 1 [(93, 0)] [[]] (rel [is (.bool true)])
  ⟨is_k, trivial⟩
  ⟨fun f s W c d hs i a ha => opv rfl rfl (by simp [go_sem, ha.e 92 k13_92, ha.e 91 k13_91]) rfl, trivial⟩ ?_
 intro f14 s14 W14 hB14 g14 hg14
 have fB14 := hB14.f fB13
 have z14 := hB14.below.size
 have b14_0 := hB14.b b13_0
 have b14_1 := hB14.b b13_1
 have b14_2 := hB14.b b13_2
 have b14_3 := hB14.b b13_3
 have b14_4 := hB14.b b13_4
 have b14_5 := hB14.b b13_5
 refine hK13 _ _ ?_
 have k14_1 := kt hg14 1 k13_1
 have k14_2 := kt hg14 2 k13_2
 have k14_4 := kt hg14 4 k13_4
 have k14_5 := kt hg14 5 k13_5
 have k14_6 := kt hg14 6 k13_6
 have k14_8 := kt hg14 8 k13_8
 have k14_9 := kt hg14 9 k13_9
 have k14_10 := kt hg14 10 k13_10
 have k14_11 := kt hg14 11 k13_11
 have k14_12 := kt hg14 12 k13_12
 have k14_14 := kt hg14 14 k13_14
 have k14_15 := kt hg14 15 k13_15
 have k14_90 := kt hg14 90 k13_90
 have k14_91 := kt hg14 91 k13_91
 have k14_92 := kt hg14 92 k13_92
 have k14_93 := kt hg14 93 (hB14.is 0)
 refine wp_seq_k fun K14 hK14 => ?_
 refine wp_cond_true ((fr_eval rfl).trans k14_93) ?_
 refine wp_skip ?_
 refine hK14 _ _ ?_
 refine wp_seq_k fun K16 hK16 => ?_
 refine wp_block ?_
 refine wp_seq_k fun K17 hK17 => ?_
 refine region_dk 3 [(94, 0), (95, 1), (20, 2)] [[], [0], [], [0, 1, 2]] (rel [is (.pointer (some ⟨(s12 18), 0, none⟩)),
   is (.agg #[.bool (decide (v1.1 > v1.2)), .int .i64 0]),
   bx 2 #[.bool false, .int .i64 0] 122])
  ⟨is_k, is_k, bx_k, trivial⟩
  ⟨fun f s W c d hs i a ha => opv rfl rfl (by simp [go_sem, ha.e 90 k14_90, ha.e 92 k14_92]) rfl,
  fun f s W c d hs i a ha => opv rfl rfl (by simp [go_sem, ha.e 94 (d 0 rfl), cb b14_5 c 0, cb b14_5 c 1]) rfl,
  fun f s W c d hs i a ha => opb rfl rfl (by simp [go_sem]), trivial⟩ ?_
 intro f15 s15 W15 hB15 g15 hg15
 have fB15 := hB15.f fB14
 have z15 := hB15.below.size
 have b15_0 := hB15.b b14_0
 have b15_1 := hB15.b b14_1
 have b15_2 := hB15.b b14_2
 have b15_3 := hB15.b b14_3
 have b15_4 := hB15.b b14_4
 have b15_5 := hB15.b b14_5
 obtain ⟨r15_2, br15_2⟩ := hB15.is 2
 have lr15_2 := hB15.lr 2 br15_2
 have k15_1 := kt hg15 1 k14_1
 have k15_2 := kt hg15 2 k14_2
 have k15_4 := kt hg15 4 k14_4
 have k15_5 := kt hg15 5 k14_5
 have k15_6 := kt hg15 6 k14_6
 have k15_8 := kt hg15 8 k14_8
 have k15_9 := kt hg15 9 k14_9
 have k15_10 := kt hg15 10 k14_10
 have k15_11 := kt hg15 11 k14_11
 have k15_12 := kt hg15 12 k14_12
 have k15_14 := kt hg15 14 k14_14
 have k15_15 := kt hg15 15 k14_15
 have k15_90 := kt hg15 90 k14_90
 have k15_91 := kt hg15 91 k14_91
 have k15_92 := kt hg15 92 k14_92
 have k15_93 := kt hg15 93 k14_93
 have k15_95 := kt hg15 95 (hB15.is 1)
 have k15_20 := kt hg15 20 r15_2
 obtain ⟨W16, hW16⟩ : ∃ W', W' = W15.setRow (s15 2) #[.bool (decide (v1.1 > v1.2)), .int .i64 0] := ⟨_, rfl⟩
 refine tail_skip (o := _) rfl ⟨rfl, rfl⟩ (run_seg hW16 (fr_ev k15_20) (fr_ev k15_95) br15_2 rfl rfl rfl rfl) ?_
 obtain ⟨fB16, nb16, ot16, z16⟩ := seg_facts hW16 fB15 br15_2 (by omega)
 clear hW16
 have b16_0 := ot16 _ _ (by omega) b15_0
 have b16_1 := ot16 _ _ (by omega) b15_1
 have b16_2 := ot16 _ _ (by omega) b15_2
 have b16_3 := ot16 _ _ (by omega) b15_3
 have b16_4 := ot16 _ _ (by omega) b15_4
 have b16_5 := ot16 _ _ (by omega) b15_5
 refine wpOps_end ?_
 refine hK17 _ _ ?_
 refine wp_seq_k fun K18 hK18 => ?_
 refine region_dk 2 [(96, 0), (97, 1)] [[], [0]] (rel [is (.pointer (some ⟨(s15 2), 0, none⟩)),
   is (.bool (decide (v1.1 > v1.2)))])
  ⟨is_k, is_k, trivial⟩
  ⟨fun f s W c d hs i a ha => opv rfl rfl (by simp [go_sem, ha.e 20 k15_20]) rfl,
  fun f s W c d hs i a ha => opv rfl rfl (by simp [go_sem, ha.e 96 (d 0 rfl), cb nb16 c 0]) rfl, trivial⟩ ?_
 intro f17 s17 W17 hB17 g17 hg17
 have fB17 := hB17.f fB16
 have z17 := hB17.below.size
 have b17_0 := hB17.b b16_0
 have b17_1 := hB17.b b16_1
 have b17_2 := hB17.b b16_2
 have b17_3 := hB17.b b16_3
 have b17_4 := hB17.b b16_4
 have b17_5 := hB17.b b16_5
 have b17_6 := hB17.b nb16
 refine hK18 _ _ ?_
 have k17_1 := kt hg17 1 k15_1
 have k17_2 := kt hg17 2 k15_2
 have k17_4 := kt hg17 4 k15_4
 have k17_5 := kt hg17 5 k15_5
 have k17_6 := kt hg17 6 k15_6
 have k17_8 := kt hg17 8 k15_8
 have k17_9 := kt hg17 9 k15_9
 have k17_10 := kt hg17 10 k15_10
 have k17_11 := kt hg17 11 k15_11
 have k17_12 := kt hg17 12 k15_12
 have k17_14 := kt hg17 14 k15_14
 have k17_15 := kt hg17 15 k15_15
 have k17_90 := kt hg17 90 k15_90
 have k17_91 := kt hg17 91 k15_91
 have k17_92 := kt hg17 92 k15_92
 have k17_93 := kt hg17 93 k15_93
 have k17_95 := kt hg17 95 k15_95
 have k17_20 := kt hg17 20 k15_20
 have k17_97 := kt hg17 97 (hB17.is 1)
 refine wp_cond_split (t := decide (v1.1 > v1.2)) ((fr_eval rfl).trans k17_97) (fun hc19 => ?_) (fun hc19 => ?_)
 ·
  have hc19' := hc19; try simp only [ba] at hc19'
  refine wp_seq_k fun K20 hK20 => ?_
  refine region_dk 6 [(98, 0), (99, 1), (100, 2), (5, 4), (6, 5)] [[], [], [1], [0], [0, 1, 2, 3], [0, 1, 2, 3, 4]] (rel [is (.agg #[.int .i64 0, .slice (none) (0) (0), .int .i64 0, .slice (none) (0) (0), .slice (none) (0) (0), .int .i64 0, .bool false]),
   is (.pointer (some ⟨(s15 2), 1, none⟩)),
   is (.int .i64 0),
   is (undef),
   is (.int .i64 0),
   is (.int .i64 9)])
   ⟨is_k, is_k, is_k, is_k, is_k, is_k, trivial⟩
   ⟨fun f s W c d hs i a ha => opv rfl rfl (by simp [go_sem, ha.e 4 k17_4, cb b17_1 c 0, cb b17_1 c 1, cb b17_1 c 2, cb b17_1 c 3, cb b17_1 c 4, cb b17_1 c 5, cb b17_1 c 6]) rfl,
  fun f s W c d hs i a ha => opv rfl rfl (by simp [go_sem, ha.e 20 k17_20]) rfl,
  fun f s W c d hs i a ha => opv rfl rfl (by simp [go_sem, ha.e 99 (d 1 rfl), cb b17_6 c 1]) rfl,
  fun f s W c d hs i a ha => ops_same rfl ⟨rfl, rfl⟩ (run_seg (setRow_self W _ _ _ _ (blk_below b17_1 c)).symm (ha.v 4 k17_4) (ha.v 98 (d 0 rfl)) (blk_below b17_1 c) rfl rfl rfl rfl),
  fun f s W c d hs i a ha => opv rfl rfl (by simp [go_sem, ha.e 100 (d 2 rfl)]) rfl,
  fun f s W c d hs i a ha => opv rfl rfl (by simp [go_sem]) rfl, trivial⟩ ?_
  intro f18 s18 W18 hB18 g18 hg18
  have fB18 := hB18.f fB17
  have z18 := hB18.below.size
  have b18_0 := hB18.b b17_0
  have b18_1 := hB18.b b17_1
  have b18_2 := hB18.b b17_2
  have b18_3 := hB18.b b17_3
  have b18_4 := hB18.b b17_4
  have b18_5 := hB18.b b17_5
  have b18_6 := hB18.b b17_6
  refine hK20 _ _ ?_
  have k18_1 := kt hg18 1 k17_1
  have k18_2 := kt hg18 2 k17_2
  have k18_4 := kt hg18 4 k17_4
  have k18_8 := kt hg18 8 k17_8
  have k18_9 := kt hg18 9 k17_9
  have k18_10 := kt hg18 10 k17_10
  have k18_11 := kt hg18 11 k17_11
  have k18_12 := kt hg18 12 k17_12
  have k18_14 := kt hg18 14 k17_14
  have k18_15 := kt hg18 15 k17_15
  have k18_90 := kt hg18 90 k17_90
  have k18_91 := kt hg18 91 k17_91
  have k18_92 := kt hg18 92 k17_92
  have k18_93 := kt hg18 93 k17_93
  have k18_95 := kt hg18 95 k17_95
  have k18_20 := kt hg18 20 k17_20
  have k18_97 := kt hg18 97 k17_97
  have k18_5 := kt hg18 5 (hB18.is 4)
  have k18_6 := kt hg18 6 (hB18.is 5)
  refine wp_ret ?_
  refine inBlock_ret (then_ret (then_ret (inBlock_ret (then_ret ?_))))
  refine leave_gen (v := .tuple #[.agg #[.int .i64 0, .slice (none) (0) (0), .int .i64 0, .slice (none) (0) (0), .slice (none) (0) (0), .int .i64 0, .bool false], .int .i64 0, .int .i64 9]) (.inr rfl) (by simp [results, Try.results54, go_sem, frv 132 k18_4, cl b18_1 0, cl b18_1 1, cl b18_1 2, cl b18_1 3, cl b18_1 4, cl b18_1 5, cl b18_1 6, frv 132 k18_5, frv 132 k18_6]) ?_
  have hs : blankOf ⟨(l1, h1), (l2, h2), (l3, h3), (l4, h4), (l5, h5), wo⟩ clo chi tab = (⟨0, [], 0, [], [], 0, false⟩, 0, 9) := by
   simp only [blankOf, ← hv1, ← hv2, ← hv3, ← hp1, ← hp2, hc19, if_true, if_false, Bool.false_eq_true, Bool.not_true, Bool.not_false]
  rw [hs]
  exact ⟨fun h => absurd h (by show ¬ (9 : Int) = 0; decide), fun _ => ⟨rfl, fB18⟩⟩
 ·
  have hc19' := hc19; try simp only [ba] at hc19'
  refine wp_skip ?_
  refine inBlock_normal ?_
  refine hK16 _ _ ?_
  refine region_dk 2 [(101, 0), (92, 1)] [[], [0]] (rel [is (.int .i64 1),
   is (.int .i64 1)])
   ⟨is_k, is_k, trivial⟩
   ⟨fun f s W c d hs i a ha => opv rfl rfl (by simp [go_sem, ha.e 92 ((i 1 92 rfl rfl).trans k17_92), IntWalk.i64_in (1) (by omega)]) rfl,
  fun f s W c d hs i a ha => opv rfl rfl (by simp [go_sem, ha.e 101 (d 0 rfl)]) rfl, trivial⟩ ?_
  intro f19 s19 W19 hB19 g19 hg19
  have fB19 := hB19.f fB17
  have z19 := hB19.below.size
  have b19_0 := hB19.b b17_0
  have b19_1 := hB19.b b17_1
  have b19_2 := hB19.b b17_2
  have b19_3 := hB19.b b17_3
  have b19_4 := hB19.b b17_4
  have b19_5 := hB19.b b17_5
  have b19_6 := hB19.b b17_6
  refine wpOps_end ?_
  have k19_1 := kt hg19 1 k17_1
  have k19_2 := kt hg19 2 k17_2
  have k19_4 := kt hg19 4 k17_4
  have k19_5 := kt hg19 5 k17_5
  have k19_6 := kt hg19 6 k17_6
  have k19_8 := kt hg19 8 k17_8
  have k19_9 := kt hg19 9 k17_9
  have k19_10 := kt hg19 10 k17_10
  have k19_11 := kt hg19 11 k17_11
  have k19_12 := kt hg19 12 k17_12
  have k19_14 := kt hg19 14 k17_14
  have k19_15 := kt hg19 15 k17_15
  have k19_90 := kt hg19 90 k17_90
  have k19_91 := kt hg19 91 k17_91
  have k19_93 := kt hg19 93 k17_93
  have k19_95 := kt hg19 95 k17_95
  have k19_20 := kt hg19 20 k17_20
  have k19_97 := kt hg19 97 k17_97
  have k19_92 := kt hg19 92 (hB19.is 1)
  refine then_normal ?_
  rw [rounds_succ]
  refine wp_seq_k fun K21 hK21 => ?_
  refine region_dk 1 [(93, 0)] [[]] (rel [is (.bool true)])
   ⟨is_k, trivial⟩
   ⟨fun f s W c d hs i a ha => opv rfl rfl (by simp [go_sem, ha.e 92 k19_92, ha.e 91 k19_91]) rfl, trivial⟩ ?_
  intro f20 s20 W20 hB20 g20 hg20
  have fB20 := hB20.f fB19
  have z20 := hB20.below.size
  have b20_0 := hB20.b b19_0
  have b20_1 := hB20.b b19_1
  have b20_2 := hB20.b b19_2
  have b20_3 := hB20.b b19_3
  have b20_4 := hB20.b b19_4
  have b20_5 := hB20.b b19_5
  have b20_6 := hB20.b b19_6
  refine hK21 _ _ ?_
  have k20_1 := kt hg20 1 k19_1
  have k20_2 := kt hg20 2 k19_2
  have k20_4 := kt hg20 4 k19_4
  have k20_5 := kt hg20 5 k19_5
  have k20_6 := kt hg20 6 k19_6
  have k20_8 := kt hg20 8 k19_8
  have k20_9 := kt hg20 9 k19_9
  have k20_10 := kt hg20 10 k19_10
  have k20_11 := kt hg20 11 k19_11
  have k20_12 := kt hg20 12 k19_12
  have k20_14 := kt hg20 14 k19_14
  have k20_15 := kt hg20 15 k19_15
  have k20_90 := kt hg20 90 k19_90
  have k20_91 := kt hg20 91 k19_91
  have k20_95 := kt hg20 95 k19_95
  have k20_20 := kt hg20 20 k19_20
  have k20_97 := kt hg20 97 k19_97
  have k20_92 := kt hg20 92 k19_92
  have k20_93 := kt hg20 93 (hB20.is 0)
  refine wp_seq_k fun K22 hK22 => ?_
  refine wp_cond_true ((fr_eval rfl).trans k20_93) ?_
  refine wp_skip ?_
  refine hK22 _ _ ?_
  refine wp_seq_k fun K24 hK24 => ?_
  refine wp_block ?_
  refine wp_seq_k fun K25 hK25 => ?_
  refine region_dk 3 [(94, 0), (95, 1), (20, 2)] [[], [0], [], [0, 1, 2]] (rel [is (.pointer (some ⟨(s12 18), 2, none⟩)),
   is (.agg #[.bool (decide (v2.1 > v2.2)), .int .i64 1]),
   bx 2 #[.bool false, .int .i64 0] 122])
   ⟨is_k, is_k, bx_k, trivial⟩
   ⟨fun f s W c d hs i a ha => opv rfl rfl (by simp [go_sem, ha.e 90 k20_90, ha.e 92 k20_92]) rfl,
  fun f s W c d hs i a ha => opv rfl rfl (by simp [go_sem, ha.e 94 (d 0 rfl), cb b20_5 c 2, cb b20_5 c 3]) rfl,
  fun f s W c d hs i a ha => opb rfl rfl (by simp [go_sem]), trivial⟩ ?_
  intro f21 s21 W21 hB21 g21 hg21
  have fB21 := hB21.f fB20
  have z21 := hB21.below.size
  have b21_0 := hB21.b b20_0
  have b21_1 := hB21.b b20_1
  have b21_2 := hB21.b b20_2
  have b21_3 := hB21.b b20_3
  have b21_4 := hB21.b b20_4
  have b21_5 := hB21.b b20_5
  have b21_6 := hB21.b b20_6
  obtain ⟨r21_2, br21_2⟩ := hB21.is 2
  have lr21_2 := hB21.lr 2 br21_2
  have k21_1 := kt hg21 1 k20_1
  have k21_2 := kt hg21 2 k20_2
  have k21_4 := kt hg21 4 k20_4
  have k21_5 := kt hg21 5 k20_5
  have k21_6 := kt hg21 6 k20_6
  have k21_8 := kt hg21 8 k20_8
  have k21_9 := kt hg21 9 k20_9
  have k21_10 := kt hg21 10 k20_10
  have k21_11 := kt hg21 11 k20_11
  have k21_12 := kt hg21 12 k20_12
  have k21_14 := kt hg21 14 k20_14
  have k21_15 := kt hg21 15 k20_15
  have k21_90 := kt hg21 90 k20_90
  have k21_91 := kt hg21 91 k20_91
  have k21_97 := kt hg21 97 k20_97
  have k21_92 := kt hg21 92 k20_92
  have k21_93 := kt hg21 93 k20_93
  have k21_95 := kt hg21 95 (hB21.is 1)
  have k21_20 := kt hg21 20 r21_2
  obtain ⟨W22, hW22⟩ : ∃ W', W' = W21.setRow (s21 2) #[.bool (decide (v2.1 > v2.2)), .int .i64 1] := ⟨_, rfl⟩
  refine tail_skip (o := _) rfl ⟨rfl, rfl⟩ (run_seg hW22 (fr_ev k21_20) (fr_ev k21_95) br21_2 rfl rfl rfl rfl) ?_
  obtain ⟨fB22, nb22, ot22, z22⟩ := seg_facts hW22 fB21 br21_2 (by omega)
  clear hW22
  have b22_0 := ot22 _ _ (by omega) b21_0
  have b22_1 := ot22 _ _ (by omega) b21_1
  have b22_2 := ot22 _ _ (by omega) b21_2
  have b22_3 := ot22 _ _ (by omega) b21_3
  have b22_4 := ot22 _ _ (by omega) b21_4
  have b22_5 := ot22 _ _ (by omega) b21_5
  have b22_6 := ot22 _ _ (by omega) b21_6
  refine wpOps_end ?_
  refine hK25 _ _ ?_
  refine wp_seq_k fun K26 hK26 => ?_
  refine region_dk 2 [(96, 0), (97, 1)] [[], [0]] (rel [is (.pointer (some ⟨(s21 2), 0, none⟩)),
   is (.bool (decide (v2.1 > v2.2)))])
   ⟨is_k, is_k, trivial⟩
   ⟨fun f s W c d hs i a ha => opv rfl rfl (by simp [go_sem, ha.e 20 k21_20]) rfl,
  fun f s W c d hs i a ha => opv rfl rfl (by simp [go_sem, ha.e 96 (d 0 rfl), cb nb22 c 0]) rfl, trivial⟩ ?_
  intro f23 s23 W23 hB23 g23 hg23
  have fB23 := hB23.f fB22
  have z23 := hB23.below.size
  have b23_0 := hB23.b b22_0
  have b23_1 := hB23.b b22_1
  have b23_2 := hB23.b b22_2
  have b23_3 := hB23.b b22_3
  have b23_4 := hB23.b b22_4
  have b23_5 := hB23.b b22_5
  have b23_6 := hB23.b b22_6
  have b23_7 := hB23.b nb22
  refine hK26 _ _ ?_
  have k23_1 := kt hg23 1 k21_1
  have k23_2 := kt hg23 2 k21_2
  have k23_4 := kt hg23 4 k21_4
  have k23_5 := kt hg23 5 k21_5
  have k23_6 := kt hg23 6 k21_6
  have k23_8 := kt hg23 8 k21_8
  have k23_9 := kt hg23 9 k21_9
  have k23_10 := kt hg23 10 k21_10
  have k23_11 := kt hg23 11 k21_11
  have k23_12 := kt hg23 12 k21_12
  have k23_14 := kt hg23 14 k21_14
  have k23_15 := kt hg23 15 k21_15
  have k23_90 := kt hg23 90 k21_90
  have k23_91 := kt hg23 91 k21_91
  have k23_92 := kt hg23 92 k21_92
  have k23_93 := kt hg23 93 k21_93
  have k23_95 := kt hg23 95 k21_95
  have k23_20 := kt hg23 20 k21_20
  have k23_97 := kt hg23 97 (hB23.is 1)
  refine wp_cond_split (t := decide (v2.1 > v2.2)) ((fr_eval rfl).trans k23_97) (fun hc27 => ?_) (fun hc27 => ?_)
  ·
   have hc27' := hc27; try simp only [ba] at hc27'
   refine wp_seq_k fun K28 hK28 => ?_
   refine region_dk 6 [(98, 0), (99, 1), (100, 2), (5, 4), (6, 5)] [[], [], [1], [0], [0, 1, 2, 3], [0, 1, 2, 3, 4]] (rel [is (.agg #[.int .i64 0, .slice (none) (0) (0), .int .i64 0, .slice (none) (0) (0), .slice (none) (0) (0), .int .i64 0, .bool false]),
   is (.pointer (some ⟨(s21 2), 1, none⟩)),
   is (.int .i64 1),
   is (undef),
   is (.int .i64 1),
   is (.int .i64 9)])
    ⟨is_k, is_k, is_k, is_k, is_k, is_k, trivial⟩
    ⟨fun f s W c d hs i a ha => opv rfl rfl (by simp [go_sem, ha.e 4 k23_4, cb b23_1 c 0, cb b23_1 c 1, cb b23_1 c 2, cb b23_1 c 3, cb b23_1 c 4, cb b23_1 c 5, cb b23_1 c 6]) rfl,
  fun f s W c d hs i a ha => opv rfl rfl (by simp [go_sem, ha.e 20 k23_20]) rfl,
  fun f s W c d hs i a ha => opv rfl rfl (by simp [go_sem, ha.e 99 (d 1 rfl), cb b23_7 c 1]) rfl,
  fun f s W c d hs i a ha => ops_same rfl ⟨rfl, rfl⟩ (run_seg (setRow_self W _ _ _ _ (blk_below b23_1 c)).symm (ha.v 4 k23_4) (ha.v 98 (d 0 rfl)) (blk_below b23_1 c) rfl rfl rfl rfl),
  fun f s W c d hs i a ha => opv rfl rfl (by simp [go_sem, ha.e 100 (d 2 rfl)]) rfl,
  fun f s W c d hs i a ha => opv rfl rfl (by simp [go_sem]) rfl, trivial⟩ ?_
   intro f24 s24 W24 hB24 g24 hg24
   have fB24 := hB24.f fB23
   have z24 := hB24.below.size
   have b24_0 := hB24.b b23_0
   have b24_1 := hB24.b b23_1
   have b24_2 := hB24.b b23_2
   have b24_3 := hB24.b b23_3
   have b24_4 := hB24.b b23_4
   have b24_5 := hB24.b b23_5
   have b24_6 := hB24.b b23_6
   have b24_7 := hB24.b b23_7
   refine hK28 _ _ ?_
   have k24_1 := kt hg24 1 k23_1
   have k24_2 := kt hg24 2 k23_2
   have k24_4 := kt hg24 4 k23_4
   have k24_8 := kt hg24 8 k23_8
   have k24_9 := kt hg24 9 k23_9
   have k24_10 := kt hg24 10 k23_10
   have k24_11 := kt hg24 11 k23_11
   have k24_12 := kt hg24 12 k23_12
   have k24_14 := kt hg24 14 k23_14
   have k24_15 := kt hg24 15 k23_15
   have k24_90 := kt hg24 90 k23_90
   have k24_91 := kt hg24 91 k23_91
   have k24_92 := kt hg24 92 k23_92
   have k24_93 := kt hg24 93 k23_93
   have k24_95 := kt hg24 95 k23_95
   have k24_20 := kt hg24 20 k23_20
   have k24_97 := kt hg24 97 k23_97
   have k24_5 := kt hg24 5 (hB24.is 4)
   have k24_6 := kt hg24 6 (hB24.is 5)
   refine wp_ret ?_
   refine inBlock_ret (then_ret (then_ret (inBlock_ret (then_ret ?_))))
   refine leave_gen (v := .tuple #[.agg #[.int .i64 0, .slice (none) (0) (0), .int .i64 0, .slice (none) (0) (0), .slice (none) (0) (0), .int .i64 0, .bool false], .int .i64 1, .int .i64 9]) (.inr rfl) (by simp [results, Try.results54, go_sem, frv 132 k24_4, cl b24_1 0, cl b24_1 1, cl b24_1 2, cl b24_1 3, cl b24_1 4, cl b24_1 5, cl b24_1 6, frv 132 k24_5, frv 132 k24_6]) ?_
   have hs : blankOf ⟨(l1, h1), (l2, h2), (l3, h3), (l4, h4), (l5, h5), wo⟩ clo chi tab = (⟨0, [], 0, [], [], 0, false⟩, 1, 9) := by
    simp only [blankOf, ← hv1, ← hv2, ← hv3, ← hp1, ← hp2, hc19, hc27, if_true, if_false, Bool.false_eq_true, Bool.not_true, Bool.not_false]
   rw [hs]
   exact ⟨fun h => absurd h (by show ¬ (9 : Int) = 0; decide), fun _ => ⟨rfl, fB24⟩⟩
  ·
   have hc27' := hc27; try simp only [ba] at hc27'
   refine wp_skip ?_
   refine inBlock_normal ?_
   refine hK24 _ _ ?_
   refine region_dk 2 [(101, 0), (92, 1)] [[], [0]] (rel [is (.int .i64 2),
   is (.int .i64 2)])
    ⟨is_k, is_k, trivial⟩
    ⟨fun f s W c d hs i a ha => opv rfl rfl (by simp [go_sem, ha.e 92 ((i 1 92 rfl rfl).trans k23_92), IntWalk.i64_in (2) (by omega)]) rfl,
  fun f s W c d hs i a ha => opv rfl rfl (by simp [go_sem, ha.e 101 (d 0 rfl)]) rfl, trivial⟩ ?_
   intro f25 s25 W25 hB25 g25 hg25
   have fB25 := hB25.f fB23
   have z25 := hB25.below.size
   have b25_0 := hB25.b b23_0
   have b25_1 := hB25.b b23_1
   have b25_2 := hB25.b b23_2
   have b25_3 := hB25.b b23_3
   have b25_4 := hB25.b b23_4
   have b25_5 := hB25.b b23_5
   have b25_6 := hB25.b b23_6
   have b25_7 := hB25.b b23_7
   refine wpOps_end ?_
   have k25_1 := kt hg25 1 k23_1
   have k25_2 := kt hg25 2 k23_2
   have k25_4 := kt hg25 4 k23_4
   have k25_5 := kt hg25 5 k23_5
   have k25_6 := kt hg25 6 k23_6
   have k25_8 := kt hg25 8 k23_8
   have k25_9 := kt hg25 9 k23_9
   have k25_10 := kt hg25 10 k23_10
   have k25_11 := kt hg25 11 k23_11
   have k25_12 := kt hg25 12 k23_12
   have k25_14 := kt hg25 14 k23_14
   have k25_15 := kt hg25 15 k23_15
   have k25_90 := kt hg25 90 k23_90
   have k25_91 := kt hg25 91 k23_91
   have k25_93 := kt hg25 93 k23_93
   have k25_95 := kt hg25 95 k23_95
   have k25_20 := kt hg25 20 k23_20
   have k25_97 := kt hg25 97 k23_97
   have k25_92 := kt hg25 92 (hB25.is 1)
   refine then_normal ?_
   rw [rounds_succ]
   refine wp_seq_k fun K29 hK29 => ?_
   refine region_dk 1 [(93, 0)] [[]] (rel [is (.bool true)])
    ⟨is_k, trivial⟩
    ⟨fun f s W c d hs i a ha => opv rfl rfl (by simp [go_sem, ha.e 92 k25_92, ha.e 91 k25_91]) rfl, trivial⟩ ?_
   intro f26 s26 W26 hB26 g26 hg26
   have fB26 := hB26.f fB25
   have z26 := hB26.below.size
   have b26_0 := hB26.b b25_0
   have b26_1 := hB26.b b25_1
   have b26_2 := hB26.b b25_2
   have b26_3 := hB26.b b25_3
   have b26_4 := hB26.b b25_4
   have b26_5 := hB26.b b25_5
   have b26_6 := hB26.b b25_6
   have b26_7 := hB26.b b25_7
   refine hK29 _ _ ?_
   have k26_1 := kt hg26 1 k25_1
   have k26_2 := kt hg26 2 k25_2
   have k26_4 := kt hg26 4 k25_4
   have k26_5 := kt hg26 5 k25_5
   have k26_6 := kt hg26 6 k25_6
   have k26_8 := kt hg26 8 k25_8
   have k26_9 := kt hg26 9 k25_9
   have k26_10 := kt hg26 10 k25_10
   have k26_11 := kt hg26 11 k25_11
   have k26_12 := kt hg26 12 k25_12
   have k26_14 := kt hg26 14 k25_14
   have k26_15 := kt hg26 15 k25_15
   have k26_90 := kt hg26 90 k25_90
   have k26_91 := kt hg26 91 k25_91
   have k26_95 := kt hg26 95 k25_95
   have k26_20 := kt hg26 20 k25_20
   have k26_97 := kt hg26 97 k25_97
   have k26_92 := kt hg26 92 k25_92
   have k26_93 := kt hg26 93 (hB26.is 0)
   refine wp_seq_k fun K30 hK30 => ?_
   refine wp_cond_true ((fr_eval rfl).trans k26_93) ?_
   refine wp_skip ?_
   refine hK30 _ _ ?_
   refine wp_seq_k fun K32 hK32 => ?_
   refine wp_block ?_
   refine wp_seq_k fun K33 hK33 => ?_
   refine region_dk 3 [(94, 0), (95, 1), (20, 2)] [[], [0], [], [0, 1, 2]] (rel [is (.pointer (some ⟨(s12 18), 4, none⟩)),
   is (.agg #[.bool (decide (v3.1 > v3.2)), .int .i64 4]),
   bx 2 #[.bool false, .int .i64 0] 122])
    ⟨is_k, is_k, bx_k, trivial⟩
    ⟨fun f s W c d hs i a ha => opv rfl rfl (by simp [go_sem, ha.e 90 k26_90, ha.e 92 k26_92]) rfl,
  fun f s W c d hs i a ha => opv rfl rfl (by simp [go_sem, ha.e 94 (d 0 rfl), cb b26_5 c 4, cb b26_5 c 5]) rfl,
  fun f s W c d hs i a ha => opb rfl rfl (by simp [go_sem]), trivial⟩ ?_
   intro f27 s27 W27 hB27 g27 hg27
   have fB27 := hB27.f fB26
   have z27 := hB27.below.size
   have b27_0 := hB27.b b26_0
   have b27_1 := hB27.b b26_1
   have b27_2 := hB27.b b26_2
   have b27_3 := hB27.b b26_3
   have b27_4 := hB27.b b26_4
   have b27_5 := hB27.b b26_5
   have b27_6 := hB27.b b26_6
   have b27_7 := hB27.b b26_7
   obtain ⟨r27_2, br27_2⟩ := hB27.is 2
   have lr27_2 := hB27.lr 2 br27_2
   have k27_1 := kt hg27 1 k26_1
   have k27_2 := kt hg27 2 k26_2
   have k27_4 := kt hg27 4 k26_4
   have k27_5 := kt hg27 5 k26_5
   have k27_6 := kt hg27 6 k26_6
   have k27_8 := kt hg27 8 k26_8
   have k27_9 := kt hg27 9 k26_9
   have k27_10 := kt hg27 10 k26_10
   have k27_11 := kt hg27 11 k26_11
   have k27_12 := kt hg27 12 k26_12
   have k27_14 := kt hg27 14 k26_14
   have k27_15 := kt hg27 15 k26_15
   have k27_90 := kt hg27 90 k26_90
   have k27_91 := kt hg27 91 k26_91
   have k27_97 := kt hg27 97 k26_97
   have k27_92 := kt hg27 92 k26_92
   have k27_93 := kt hg27 93 k26_93
   have k27_95 := kt hg27 95 (hB27.is 1)
   have k27_20 := kt hg27 20 r27_2
   obtain ⟨W28, hW28⟩ : ∃ W', W' = W27.setRow (s27 2) #[.bool (decide (v3.1 > v3.2)), .int .i64 4] := ⟨_, rfl⟩
   refine tail_skip (o := _) rfl ⟨rfl, rfl⟩ (run_seg hW28 (fr_ev k27_20) (fr_ev k27_95) br27_2 rfl rfl rfl rfl) ?_
   obtain ⟨fB28, nb28, ot28, z28⟩ := seg_facts hW28 fB27 br27_2 (by omega)
   clear hW28
   have b28_0 := ot28 _ _ (by omega) b27_0
   have b28_1 := ot28 _ _ (by omega) b27_1
   have b28_2 := ot28 _ _ (by omega) b27_2
   have b28_3 := ot28 _ _ (by omega) b27_3
   have b28_4 := ot28 _ _ (by omega) b27_4
   have b28_5 := ot28 _ _ (by omega) b27_5
   have b28_6 := ot28 _ _ (by omega) b27_6
   have b28_7 := ot28 _ _ (by omega) b27_7
   refine wpOps_end ?_
   refine hK33 _ _ ?_
   refine wp_seq_k fun K34 hK34 => ?_
   refine region_dk 2 [(96, 0), (97, 1)] [[], [0]] (rel [is (.pointer (some ⟨(s27 2), 0, none⟩)),
   is (.bool (decide (v3.1 > v3.2)))])
    ⟨is_k, is_k, trivial⟩
    ⟨fun f s W c d hs i a ha => opv rfl rfl (by simp [go_sem, ha.e 20 k27_20]) rfl,
  fun f s W c d hs i a ha => opv rfl rfl (by simp [go_sem, ha.e 96 (d 0 rfl), cb nb28 c 0]) rfl, trivial⟩ ?_
   intro f29 s29 W29 hB29 g29 hg29
   have fB29 := hB29.f fB28
   have z29 := hB29.below.size
   have b29_0 := hB29.b b28_0
   have b29_1 := hB29.b b28_1
   have b29_2 := hB29.b b28_2
   have b29_3 := hB29.b b28_3
   have b29_4 := hB29.b b28_4
   have b29_5 := hB29.b b28_5
   have b29_6 := hB29.b b28_6
   have b29_7 := hB29.b b28_7
   have b29_8 := hB29.b nb28
   refine hK34 _ _ ?_
   have k29_1 := kt hg29 1 k27_1
   have k29_2 := kt hg29 2 k27_2
   have k29_4 := kt hg29 4 k27_4
   have k29_5 := kt hg29 5 k27_5
   have k29_6 := kt hg29 6 k27_6
   have k29_8 := kt hg29 8 k27_8
   have k29_9 := kt hg29 9 k27_9
   have k29_10 := kt hg29 10 k27_10
   have k29_11 := kt hg29 11 k27_11
   have k29_12 := kt hg29 12 k27_12
   have k29_14 := kt hg29 14 k27_14
   have k29_15 := kt hg29 15 k27_15
   have k29_90 := kt hg29 90 k27_90
   have k29_91 := kt hg29 91 k27_91
   have k29_92 := kt hg29 92 k27_92
   have k29_93 := kt hg29 93 k27_93
   have k29_95 := kt hg29 95 k27_95
   have k29_20 := kt hg29 20 k27_20
   have k29_97 := kt hg29 97 (hB29.is 1)
   refine wp_cond_split (t := decide (v3.1 > v3.2)) ((fr_eval rfl).trans k29_97) (fun hc35 => ?_) (fun hc35 => ?_)
   ·
    have hc35' := hc35; try simp only [ba] at hc35'
    refine wp_seq_k fun K36 hK36 => ?_
    refine region_dk 6 [(98, 0), (99, 1), (100, 2), (5, 4), (6, 5)] [[], [], [1], [0], [0, 1, 2, 3], [0, 1, 2, 3, 4]] (rel [is (.agg #[.int .i64 0, .slice (none) (0) (0), .int .i64 0, .slice (none) (0) (0), .slice (none) (0) (0), .int .i64 0, .bool false]),
   is (.pointer (some ⟨(s27 2), 1, none⟩)),
   is (.int .i64 4),
   is (undef),
   is (.int .i64 4),
   is (.int .i64 9)])
     ⟨is_k, is_k, is_k, is_k, is_k, is_k, trivial⟩
     ⟨fun f s W c d hs i a ha => opv rfl rfl (by simp [go_sem, ha.e 4 k29_4, cb b29_1 c 0, cb b29_1 c 1, cb b29_1 c 2, cb b29_1 c 3, cb b29_1 c 4, cb b29_1 c 5, cb b29_1 c 6]) rfl,
  fun f s W c d hs i a ha => opv rfl rfl (by simp [go_sem, ha.e 20 k29_20]) rfl,
  fun f s W c d hs i a ha => opv rfl rfl (by simp [go_sem, ha.e 99 (d 1 rfl), cb b29_8 c 1]) rfl,
  fun f s W c d hs i a ha => ops_same rfl ⟨rfl, rfl⟩ (run_seg (setRow_self W _ _ _ _ (blk_below b29_1 c)).symm (ha.v 4 k29_4) (ha.v 98 (d 0 rfl)) (blk_below b29_1 c) rfl rfl rfl rfl),
  fun f s W c d hs i a ha => opv rfl rfl (by simp [go_sem, ha.e 100 (d 2 rfl)]) rfl,
  fun f s W c d hs i a ha => opv rfl rfl (by simp [go_sem]) rfl, trivial⟩ ?_
    intro f30 s30 W30 hB30 g30 hg30
    have fB30 := hB30.f fB29
    have z30 := hB30.below.size
    have b30_0 := hB30.b b29_0
    have b30_1 := hB30.b b29_1
    have b30_2 := hB30.b b29_2
    have b30_3 := hB30.b b29_3
    have b30_4 := hB30.b b29_4
    have b30_5 := hB30.b b29_5
    have b30_6 := hB30.b b29_6
    have b30_7 := hB30.b b29_7
    have b30_8 := hB30.b b29_8
    refine hK36 _ _ ?_
    have k30_1 := kt hg30 1 k29_1
    have k30_2 := kt hg30 2 k29_2
    have k30_4 := kt hg30 4 k29_4
    have k30_8 := kt hg30 8 k29_8
    have k30_9 := kt hg30 9 k29_9
    have k30_10 := kt hg30 10 k29_10
    have k30_11 := kt hg30 11 k29_11
    have k30_12 := kt hg30 12 k29_12
    have k30_14 := kt hg30 14 k29_14
    have k30_15 := kt hg30 15 k29_15
    have k30_90 := kt hg30 90 k29_90
    have k30_91 := kt hg30 91 k29_91
    have k30_92 := kt hg30 92 k29_92
    have k30_93 := kt hg30 93 k29_93
    have k30_95 := kt hg30 95 k29_95
    have k30_20 := kt hg30 20 k29_20
    have k30_97 := kt hg30 97 k29_97
    have k30_5 := kt hg30 5 (hB30.is 4)
    have k30_6 := kt hg30 6 (hB30.is 5)
    refine wp_ret ?_
    refine inBlock_ret (then_ret (then_ret (inBlock_ret (then_ret ?_))))
    refine leave_gen (v := .tuple #[.agg #[.int .i64 0, .slice (none) (0) (0), .int .i64 0, .slice (none) (0) (0), .slice (none) (0) (0), .int .i64 0, .bool false], .int .i64 4, .int .i64 9]) (.inr rfl) (by simp [results, Try.results54, go_sem, frv 132 k30_4, cl b30_1 0, cl b30_1 1, cl b30_1 2, cl b30_1 3, cl b30_1 4, cl b30_1 5, cl b30_1 6, frv 132 k30_5, frv 132 k30_6]) ?_
    have hs : blankOf ⟨(l1, h1), (l2, h2), (l3, h3), (l4, h4), (l5, h5), wo⟩ clo chi tab = (⟨0, [], 0, [], [], 0, false⟩, 4, 9) := by
     simp only [blankOf, ← hv1, ← hv2, ← hv3, ← hp1, ← hp2, hc19, hc27, hc35, if_true, if_false, Bool.false_eq_true, Bool.not_true, Bool.not_false]
    rw [hs]
    exact ⟨fun h => absurd h (by show ¬ (9 : Int) = 0; decide), fun _ => ⟨rfl, fB30⟩⟩
   ·
    have hc35' := hc35; try simp only [ba] at hc35'
    refine wp_skip ?_
    refine inBlock_normal ?_
    refine hK32 _ _ ?_
    refine region_dk 2 [(101, 0), (92, 1)] [[], [0]] (rel [is (.int .i64 3),
   is (.int .i64 3)])
     ⟨is_k, is_k, trivial⟩
     ⟨fun f s W c d hs i a ha => opv rfl rfl (by simp [go_sem, ha.e 92 ((i 1 92 rfl rfl).trans k29_92), IntWalk.i64_in (3) (by omega)]) rfl,
  fun f s W c d hs i a ha => opv rfl rfl (by simp [go_sem, ha.e 101 (d 0 rfl)]) rfl, trivial⟩ ?_
    intro f31 s31 W31 hB31 g31 hg31
    have fB31 := hB31.f fB29
    have z31 := hB31.below.size
    have b31_0 := hB31.b b29_0
    have b31_1 := hB31.b b29_1
    have b31_2 := hB31.b b29_2
    have b31_3 := hB31.b b29_3
    have b31_4 := hB31.b b29_4
    have b31_5 := hB31.b b29_5
    have b31_6 := hB31.b b29_6
    have b31_7 := hB31.b b29_7
    have b31_8 := hB31.b b29_8
    refine wpOps_end ?_
    have k31_1 := kt hg31 1 k29_1
    have k31_2 := kt hg31 2 k29_2
    have k31_4 := kt hg31 4 k29_4
    have k31_5 := kt hg31 5 k29_5
    have k31_6 := kt hg31 6 k29_6
    have k31_8 := kt hg31 8 k29_8
    have k31_9 := kt hg31 9 k29_9
    have k31_10 := kt hg31 10 k29_10
    have k31_11 := kt hg31 11 k29_11
    have k31_12 := kt hg31 12 k29_12
    have k31_14 := kt hg31 14 k29_14
    have k31_15 := kt hg31 15 k29_15
    have k31_90 := kt hg31 90 k29_90
    have k31_91 := kt hg31 91 k29_91
    have k31_93 := kt hg31 93 k29_93
    have k31_95 := kt hg31 95 k29_95
    have k31_20 := kt hg31 20 k29_20
    have k31_97 := kt hg31 97 k29_97
    have k31_92 := kt hg31 92 (hB31.is 1)
    refine then_normal ?_
    rw [rounds_succ]
    refine wp_seq_k fun K37 hK37 => ?_
    refine region_dk 1 [(93, 0)] [[]] (rel [is (.bool true)])
     ⟨is_k, trivial⟩
     ⟨fun f s W c d hs i a ha => opv rfl rfl (by simp [go_sem, ha.e 92 k31_92, ha.e 91 k31_91]) rfl, trivial⟩ ?_
    intro f32 s32 W32 hB32 g32 hg32
    have fB32 := hB32.f fB31
    have z32 := hB32.below.size
    have b32_0 := hB32.b b31_0
    have b32_1 := hB32.b b31_1
    have b32_2 := hB32.b b31_2
    have b32_3 := hB32.b b31_3
    have b32_4 := hB32.b b31_4
    have b32_5 := hB32.b b31_5
    have b32_6 := hB32.b b31_6
    have b32_7 := hB32.b b31_7
    have b32_8 := hB32.b b31_8
    refine hK37 _ _ ?_
    have k32_1 := kt hg32 1 k31_1
    have k32_2 := kt hg32 2 k31_2
    have k32_4 := kt hg32 4 k31_4
    have k32_5 := kt hg32 5 k31_5
    have k32_6 := kt hg32 6 k31_6
    have k32_8 := kt hg32 8 k31_8
    have k32_9 := kt hg32 9 k31_9
    have k32_10 := kt hg32 10 k31_10
    have k32_11 := kt hg32 11 k31_11
    have k32_12 := kt hg32 12 k31_12
    have k32_14 := kt hg32 14 k31_14
    have k32_15 := kt hg32 15 k31_15
    have k32_90 := kt hg32 90 k31_90
    have k32_91 := kt hg32 91 k31_91
    have k32_95 := kt hg32 95 k31_95
    have k32_20 := kt hg32 20 k31_20
    have k32_97 := kt hg32 97 k31_97
    have k32_92 := kt hg32 92 k31_92
    have k32_93 := kt hg32 93 (hB32.is 0)
    refine wp_seq_k fun K38 hK38 => ?_
    refine wp_cond_true ((fr_eval rfl).trans k32_93) ?_
    refine wp_skip ?_
    refine hK38 _ _ ?_
    refine wp_seq_k fun K40 hK40 => ?_
    refine wp_block ?_
    refine wp_seq_k fun K41 hK41 => ?_
    refine region_dk 3 [(94, 0), (95, 1), (20, 2)] [[], [0], [], [0, 1, 2]] (rel [is (.pointer (some ⟨(s12 18), 6, none⟩)),
   is (.agg #[.bool (!(p2.2.2)), .int .i64 (if wo = true then 7 else 5)]),
   bx 2 #[.bool false, .int .i64 0] 122])
     ⟨is_k, is_k, bx_k, trivial⟩
     ⟨fun f s W c d hs i a ha => opv rfl rfl (by simp [go_sem, ha.e 90 k32_90, ha.e 92 k32_92]) rfl,
  fun f s W c d hs i a ha => opv rfl rfl (by simp [go_sem, ha.e 94 (d 0 rfl), cb b32_5 c 6, cb b32_5 c 7]) rfl,
  fun f s W c d hs i a ha => opb rfl rfl (by simp [go_sem]), trivial⟩ ?_
    intro f33 s33 W33 hB33 g33 hg33
    have fB33 := hB33.f fB32
    have z33 := hB33.below.size
    have b33_0 := hB33.b b32_0
    have b33_1 := hB33.b b32_1
    have b33_2 := hB33.b b32_2
    have b33_3 := hB33.b b32_3
    have b33_4 := hB33.b b32_4
    have b33_5 := hB33.b b32_5
    have b33_6 := hB33.b b32_6
    have b33_7 := hB33.b b32_7
    have b33_8 := hB33.b b32_8
    obtain ⟨r33_2, br33_2⟩ := hB33.is 2
    have lr33_2 := hB33.lr 2 br33_2
    have k33_1 := kt hg33 1 k32_1
    have k33_2 := kt hg33 2 k32_2
    have k33_4 := kt hg33 4 k32_4
    have k33_5 := kt hg33 5 k32_5
    have k33_6 := kt hg33 6 k32_6
    have k33_8 := kt hg33 8 k32_8
    have k33_9 := kt hg33 9 k32_9
    have k33_10 := kt hg33 10 k32_10
    have k33_11 := kt hg33 11 k32_11
    have k33_12 := kt hg33 12 k32_12
    have k33_14 := kt hg33 14 k32_14
    have k33_15 := kt hg33 15 k32_15
    have k33_90 := kt hg33 90 k32_90
    have k33_91 := kt hg33 91 k32_91
    have k33_97 := kt hg33 97 k32_97
    have k33_92 := kt hg33 92 k32_92
    have k33_93 := kt hg33 93 k32_93
    have k33_95 := kt hg33 95 (hB33.is 1)
    have k33_20 := kt hg33 20 r33_2
    obtain ⟨W34, hW34⟩ : ∃ W', W' = W33.setRow (s33 2) #[.bool (!(p2.2.2)), .int .i64 (if wo = true then 7 else 5)] := ⟨_, rfl⟩
    refine tail_skip (o := _) rfl ⟨rfl, rfl⟩ (run_seg hW34 (fr_ev k33_20) (fr_ev k33_95) br33_2 rfl rfl rfl rfl) ?_
    obtain ⟨fB34, nb34, ot34, z34⟩ := seg_facts hW34 fB33 br33_2 (by omega)
    clear hW34
    have b34_0 := ot34 _ _ (by omega) b33_0
    have b34_1 := ot34 _ _ (by omega) b33_1
    have b34_2 := ot34 _ _ (by omega) b33_2
    have b34_3 := ot34 _ _ (by omega) b33_3
    have b34_4 := ot34 _ _ (by omega) b33_4
    have b34_5 := ot34 _ _ (by omega) b33_5
    have b34_6 := ot34 _ _ (by omega) b33_6
    have b34_7 := ot34 _ _ (by omega) b33_7
    have b34_8 := ot34 _ _ (by omega) b33_8
    refine wpOps_end ?_
    refine hK41 _ _ ?_
    refine wp_seq_k fun K42 hK42 => ?_
    refine region_dk 2 [(96, 0), (97, 1)] [[], [0]] (rel [is (.pointer (some ⟨(s33 2), 0, none⟩)),
   is (.bool (!(p2.2.2)))])
     ⟨is_k, is_k, trivial⟩
     ⟨fun f s W c d hs i a ha => opv rfl rfl (by simp [go_sem, ha.e 20 k33_20]) rfl,
  fun f s W c d hs i a ha => opv rfl rfl (by simp [go_sem, ha.e 96 (d 0 rfl), cb nb34 c 0]) rfl, trivial⟩ ?_
    intro f35 s35 W35 hB35 g35 hg35
    have fB35 := hB35.f fB34
    have z35 := hB35.below.size
    have b35_0 := hB35.b b34_0
    have b35_1 := hB35.b b34_1
    have b35_2 := hB35.b b34_2
    have b35_3 := hB35.b b34_3
    have b35_4 := hB35.b b34_4
    have b35_5 := hB35.b b34_5
    have b35_6 := hB35.b b34_6
    have b35_7 := hB35.b b34_7
    have b35_8 := hB35.b b34_8
    have b35_9 := hB35.b nb34
    refine hK42 _ _ ?_
    have k35_1 := kt hg35 1 k33_1
    have k35_2 := kt hg35 2 k33_2
    have k35_4 := kt hg35 4 k33_4
    have k35_5 := kt hg35 5 k33_5
    have k35_6 := kt hg35 6 k33_6
    have k35_8 := kt hg35 8 k33_8
    have k35_9 := kt hg35 9 k33_9
    have k35_10 := kt hg35 10 k33_10
    have k35_11 := kt hg35 11 k33_11
    have k35_12 := kt hg35 12 k33_12
    have k35_14 := kt hg35 14 k33_14
    have k35_15 := kt hg35 15 k33_15
    have k35_90 := kt hg35 90 k33_90
    have k35_91 := kt hg35 91 k33_91
    have k35_92 := kt hg35 92 k33_92
    have k35_93 := kt hg35 93 k33_93
    have k35_95 := kt hg35 95 k33_95
    have k35_20 := kt hg35 20 k33_20
    have k35_97 := kt hg35 97 (hB35.is 1)
    refine wp_cond_split (t := !(p2.2.2)) ((fr_eval rfl).trans k35_97) (fun hc43 => ?_) (fun hc43 => ?_)
    ·
     have hc43' := hc43; try simp only [ba] at hc43'
     refine wp_seq_k fun K44 hK44 => ?_
     refine region_dk 6 [(98, 0), (99, 1), (100, 2), (5, 4), (6, 5)] [[], [], [1], [0], [0, 1, 2, 3], [0, 1, 2, 3, 4]] (rel [is (.agg #[.int .i64 0, .slice (none) (0) (0), .int .i64 0, .slice (none) (0) (0), .slice (none) (0) (0), .int .i64 0, .bool false]),
   is (.pointer (some ⟨(s33 2), 1, none⟩)),
   is (.int .i64 (if wo = true then 7 else 5)),
   is (undef),
   is (.int .i64 (if wo = true then 7 else 5)),
   is (.int .i64 9)])
      ⟨is_k, is_k, is_k, is_k, is_k, is_k, trivial⟩
      ⟨fun f s W c d hs i a ha => opv rfl rfl (by simp [go_sem, ha.e 4 k35_4, cb b35_1 c 0, cb b35_1 c 1, cb b35_1 c 2, cb b35_1 c 3, cb b35_1 c 4, cb b35_1 c 5, cb b35_1 c 6]) rfl,
  fun f s W c d hs i a ha => opv rfl rfl (by simp [go_sem, ha.e 20 k35_20]) rfl,
  fun f s W c d hs i a ha => opv rfl rfl (by simp [go_sem, ha.e 99 (d 1 rfl), cb b35_9 c 1]) rfl,
  fun f s W c d hs i a ha => ops_same rfl ⟨rfl, rfl⟩ (run_seg (setRow_self W _ _ _ _ (blk_below b35_1 c)).symm (ha.v 4 k35_4) (ha.v 98 (d 0 rfl)) (blk_below b35_1 c) rfl rfl rfl rfl),
  fun f s W c d hs i a ha => opv rfl rfl (by simp [go_sem, ha.e 100 (d 2 rfl)]) rfl,
  fun f s W c d hs i a ha => opv rfl rfl (by simp [go_sem]) rfl, trivial⟩ ?_
     intro f36 s36 W36 hB36 g36 hg36
     have fB36 := hB36.f fB35
     have z36 := hB36.below.size
     have b36_0 := hB36.b b35_0
     have b36_1 := hB36.b b35_1
     have b36_2 := hB36.b b35_2
     have b36_3 := hB36.b b35_3
     have b36_4 := hB36.b b35_4
     have b36_5 := hB36.b b35_5
     have b36_6 := hB36.b b35_6
     have b36_7 := hB36.b b35_7
     have b36_8 := hB36.b b35_8
     have b36_9 := hB36.b b35_9
     refine hK44 _ _ ?_
     have k36_1 := kt hg36 1 k35_1
     have k36_2 := kt hg36 2 k35_2
     have k36_4 := kt hg36 4 k35_4
     have k36_8 := kt hg36 8 k35_8
     have k36_9 := kt hg36 9 k35_9
     have k36_10 := kt hg36 10 k35_10
     have k36_11 := kt hg36 11 k35_11
     have k36_12 := kt hg36 12 k35_12
     have k36_14 := kt hg36 14 k35_14
     have k36_15 := kt hg36 15 k35_15
     have k36_90 := kt hg36 90 k35_90
     have k36_91 := kt hg36 91 k35_91
     have k36_92 := kt hg36 92 k35_92
     have k36_93 := kt hg36 93 k35_93
     have k36_95 := kt hg36 95 k35_95
     have k36_20 := kt hg36 20 k35_20
     have k36_97 := kt hg36 97 k35_97
     have k36_5 := kt hg36 5 (hB36.is 4)
     have k36_6 := kt hg36 6 (hB36.is 5)
     refine wp_ret ?_
     refine inBlock_ret (then_ret (then_ret (inBlock_ret (then_ret ?_))))
     refine leave_gen (v := .tuple #[.agg #[.int .i64 0, .slice (none) (0) (0), .int .i64 0, .slice (none) (0) (0), .slice (none) (0) (0), .int .i64 0, .bool false], .int .i64 (if wo = true then 7 else 5), .int .i64 9]) (.inr rfl) (by simp [results, Try.results54, go_sem, frv 132 k36_4, cl b36_1 0, cl b36_1 1, cl b36_1 2, cl b36_1 3, cl b36_1 4, cl b36_1 5, cl b36_1 6, frv 132 k36_5, frv 132 k36_6]) ?_
     have hs : blankOf ⟨(l1, h1), (l2, h2), (l3, h3), (l4, h4), (l5, h5), wo⟩ clo chi tab = (⟨0, [], 0, [], [], 0, false⟩, if wo = true then 7 else 5, 9) := by
      simp only [blankOf, ← hv1, ← hv2, ← hv3, ← hp1, ← hp2, hc19, hc27, hc35, hc43, if_true, if_false, Bool.false_eq_true, Bool.not_true, Bool.not_false]
     rw [hs]
     exact ⟨fun h => absurd h (by show ¬ (9 : Int) = 0; decide), fun _ => ⟨rfl, fB36⟩⟩
    ·
     have hc43' := hc43; try simp only [ba] at hc43'
     refine wp_skip ?_
     refine inBlock_normal ?_
     refine hK40 _ _ ?_
     refine region_dk 2 [(101, 0), (92, 1)] [[], [0]] (rel [is (.int .i64 4),
   is (.int .i64 4)])
      ⟨is_k, is_k, trivial⟩
      ⟨fun f s W c d hs i a ha => opv rfl rfl (by simp [go_sem, ha.e 92 ((i 1 92 rfl rfl).trans k35_92), IntWalk.i64_in (4) (by omega)]) rfl,
  fun f s W c d hs i a ha => opv rfl rfl (by simp [go_sem, ha.e 101 (d 0 rfl)]) rfl, trivial⟩ ?_
     intro f37 s37 W37 hB37 g37 hg37
     have fB37 := hB37.f fB35
     have z37 := hB37.below.size
     have b37_0 := hB37.b b35_0
     have b37_1 := hB37.b b35_1
     have b37_2 := hB37.b b35_2
     have b37_3 := hB37.b b35_3
     have b37_4 := hB37.b b35_4
     have b37_5 := hB37.b b35_5
     have b37_6 := hB37.b b35_6
     have b37_7 := hB37.b b35_7
     have b37_8 := hB37.b b35_8
     have b37_9 := hB37.b b35_9
     refine wpOps_end ?_
     have k37_1 := kt hg37 1 k35_1
     have k37_2 := kt hg37 2 k35_2
     have k37_4 := kt hg37 4 k35_4
     have k37_5 := kt hg37 5 k35_5
     have k37_6 := kt hg37 6 k35_6
     have k37_8 := kt hg37 8 k35_8
     have k37_9 := kt hg37 9 k35_9
     have k37_10 := kt hg37 10 k35_10
     have k37_11 := kt hg37 11 k35_11
     have k37_12 := kt hg37 12 k35_12
     have k37_14 := kt hg37 14 k35_14
     have k37_15 := kt hg37 15 k35_15
     have k37_90 := kt hg37 90 k35_90
     have k37_91 := kt hg37 91 k35_91
     have k37_93 := kt hg37 93 k35_93
     have k37_95 := kt hg37 95 k35_95
     have k37_20 := kt hg37 20 k35_20
     have k37_97 := kt hg37 97 k35_97
     have k37_92 := kt hg37 92 (hB37.is 1)
     refine then_normal ?_
     rw [rounds_succ]
     refine wp_seq_k fun K45 hK45 => ?_
     refine region_dk 1 [(93, 0)] [[]] (rel [is (.bool true)])
      ⟨is_k, trivial⟩
      ⟨fun f s W c d hs i a ha => opv rfl rfl (by simp [go_sem, ha.e 92 k37_92, ha.e 91 k37_91]) rfl, trivial⟩ ?_
     intro f38 s38 W38 hB38 g38 hg38
     have fB38 := hB38.f fB37
     have z38 := hB38.below.size
     have b38_0 := hB38.b b37_0
     have b38_1 := hB38.b b37_1
     have b38_2 := hB38.b b37_2
     have b38_3 := hB38.b b37_3
     have b38_4 := hB38.b b37_4
     have b38_5 := hB38.b b37_5
     have b38_6 := hB38.b b37_6
     have b38_7 := hB38.b b37_7
     have b38_8 := hB38.b b37_8
     have b38_9 := hB38.b b37_9
     refine hK45 _ _ ?_
     have k38_1 := kt hg38 1 k37_1
     have k38_2 := kt hg38 2 k37_2
     have k38_4 := kt hg38 4 k37_4
     have k38_5 := kt hg38 5 k37_5
     have k38_6 := kt hg38 6 k37_6
     have k38_8 := kt hg38 8 k37_8
     have k38_9 := kt hg38 9 k37_9
     have k38_10 := kt hg38 10 k37_10
     have k38_11 := kt hg38 11 k37_11
     have k38_12 := kt hg38 12 k37_12
     have k38_14 := kt hg38 14 k37_14
     have k38_15 := kt hg38 15 k37_15
     have k38_90 := kt hg38 90 k37_90
     have k38_91 := kt hg38 91 k37_91
     have k38_95 := kt hg38 95 k37_95
     have k38_20 := kt hg38 20 k37_20
     have k38_97 := kt hg38 97 k37_97
     have k38_92 := kt hg38 92 k37_92
     have k38_93 := kt hg38 93 (hB38.is 0)
     refine wp_seq_k fun K46 hK46 => ?_
     refine wp_cond_true ((fr_eval rfl).trans k38_93) ?_
     refine wp_skip ?_
     refine hK46 _ _ ?_
     refine wp_seq_k fun K48 hK48 => ?_
     refine wp_block ?_
     refine wp_seq_k fun K49 hK49 => ?_
     refine region_dk 3 [(94, 0), (95, 1), (20, 2)] [[], [0], [], [0, 1, 2]] (rel [is (.pointer (some ⟨(s12 18), 8, none⟩)),
   is (.agg #[.bool (!(p1.2.2)), .int .i64 ((if wo = true then 7 else 5) + 1)]),
   bx 2 #[.bool false, .int .i64 0] 122])
      ⟨is_k, is_k, bx_k, trivial⟩
      ⟨fun f s W c d hs i a ha => opv rfl rfl (by simp [go_sem, ha.e 90 k38_90, ha.e 92 k38_92]) rfl,
  fun f s W c d hs i a ha => opv rfl rfl (by simp [go_sem, ha.e 94 (d 0 rfl), cb b38_5 c 8, cb b38_5 c 9]) rfl,
  fun f s W c d hs i a ha => opb rfl rfl (by simp [go_sem]), trivial⟩ ?_
     intro f39 s39 W39 hB39 g39 hg39
     have fB39 := hB39.f fB38
     have z39 := hB39.below.size
     have b39_0 := hB39.b b38_0
     have b39_1 := hB39.b b38_1
     have b39_2 := hB39.b b38_2
     have b39_3 := hB39.b b38_3
     have b39_4 := hB39.b b38_4
     have b39_5 := hB39.b b38_5
     have b39_6 := hB39.b b38_6
     have b39_7 := hB39.b b38_7
     have b39_8 := hB39.b b38_8
     have b39_9 := hB39.b b38_9
     obtain ⟨r39_2, br39_2⟩ := hB39.is 2
     have lr39_2 := hB39.lr 2 br39_2
     have k39_1 := kt hg39 1 k38_1
     have k39_2 := kt hg39 2 k38_2
     have k39_4 := kt hg39 4 k38_4
     have k39_5 := kt hg39 5 k38_5
     have k39_6 := kt hg39 6 k38_6
     have k39_8 := kt hg39 8 k38_8
     have k39_9 := kt hg39 9 k38_9
     have k39_10 := kt hg39 10 k38_10
     have k39_11 := kt hg39 11 k38_11
     have k39_12 := kt hg39 12 k38_12
     have k39_14 := kt hg39 14 k38_14
     have k39_15 := kt hg39 15 k38_15
     have k39_90 := kt hg39 90 k38_90
     have k39_91 := kt hg39 91 k38_91
     have k39_97 := kt hg39 97 k38_97
     have k39_92 := kt hg39 92 k38_92
     have k39_93 := kt hg39 93 k38_93
     have k39_95 := kt hg39 95 (hB39.is 1)
     have k39_20 := kt hg39 20 r39_2
     obtain ⟨W40, hW40⟩ : ∃ W', W' = W39.setRow (s39 2) #[.bool (!(p1.2.2)), .int .i64 ((if wo = true then 7 else 5) + 1)] := ⟨_, rfl⟩
     refine tail_skip (o := _) rfl ⟨rfl, rfl⟩ (run_seg hW40 (fr_ev k39_20) (fr_ev k39_95) br39_2 rfl rfl rfl rfl) ?_
     obtain ⟨fB40, nb40, ot40, z40⟩ := seg_facts hW40 fB39 br39_2 (by omega)
     clear hW40
     have b40_0 := ot40 _ _ (by omega) b39_0
     have b40_1 := ot40 _ _ (by omega) b39_1
     have b40_2 := ot40 _ _ (by omega) b39_2
     have b40_3 := ot40 _ _ (by omega) b39_3
     have b40_4 := ot40 _ _ (by omega) b39_4
     have b40_5 := ot40 _ _ (by omega) b39_5
     have b40_6 := ot40 _ _ (by omega) b39_6
     have b40_7 := ot40 _ _ (by omega) b39_7
     have b40_8 := ot40 _ _ (by omega) b39_8
     have b40_9 := ot40 _ _ (by omega) b39_9
     refine wpOps_end ?_
     refine hK49 _ _ ?_
     refine wp_seq_k fun K50 hK50 => ?_
     refine region_dk 2 [(96, 0), (97, 1)] [[], [0]] (rel [is (.pointer (some ⟨(s39 2), 0, none⟩)),
   is (.bool (!(p1.2.2)))])
      ⟨is_k, is_k, trivial⟩
      ⟨fun f s W c d hs i a ha => opv rfl rfl (by simp [go_sem, ha.e 20 k39_20]) rfl,
  fun f s W c d hs i a ha => opv rfl rfl (by simp [go_sem, ha.e 96 (d 0 rfl), cb nb40 c 0]) rfl, trivial⟩ ?_
     intro f41 s41 W41 hB41 g41 hg41
     have fB41 := hB41.f fB40
     have z41 := hB41.below.size
     have b41_0 := hB41.b b40_0
     have b41_1 := hB41.b b40_1
     have b41_2 := hB41.b b40_2
     have b41_3 := hB41.b b40_3
     have b41_4 := hB41.b b40_4
     have b41_5 := hB41.b b40_5
     have b41_6 := hB41.b b40_6
     have b41_7 := hB41.b b40_7
     have b41_8 := hB41.b b40_8
     have b41_9 := hB41.b b40_9
     have b41_10 := hB41.b nb40
     refine hK50 _ _ ?_
     have k41_1 := kt hg41 1 k39_1
     have k41_2 := kt hg41 2 k39_2
     have k41_4 := kt hg41 4 k39_4
     have k41_5 := kt hg41 5 k39_5
     have k41_6 := kt hg41 6 k39_6
     have k41_8 := kt hg41 8 k39_8
     have k41_9 := kt hg41 9 k39_9
     have k41_10 := kt hg41 10 k39_10
     have k41_11 := kt hg41 11 k39_11
     have k41_12 := kt hg41 12 k39_12
     have k41_14 := kt hg41 14 k39_14
     have k41_15 := kt hg41 15 k39_15
     have k41_90 := kt hg41 90 k39_90
     have k41_91 := kt hg41 91 k39_91
     have k41_92 := kt hg41 92 k39_92
     have k41_93 := kt hg41 93 k39_93
     have k41_95 := kt hg41 95 k39_95
     have k41_20 := kt hg41 20 k39_20
     have k41_97 := kt hg41 97 (hB41.is 1)
     refine wp_cond_split (t := !(p1.2.2)) ((fr_eval rfl).trans k41_97) (fun hc51 => ?_) (fun hc51 => ?_)
     ·
      have hc51' := hc51; try simp only [ba] at hc51'
      refine wp_seq_k fun K52 hK52 => ?_
      refine region_dk 6 [(98, 0), (99, 1), (100, 2), (5, 4), (6, 5)] [[], [], [1], [0], [0, 1, 2, 3], [0, 1, 2, 3, 4]] (rel [is (.agg #[.int .i64 0, .slice (none) (0) (0), .int .i64 0, .slice (none) (0) (0), .slice (none) (0) (0), .int .i64 0, .bool false]),
   is (.pointer (some ⟨(s39 2), 1, none⟩)),
   is (.int .i64 ((if wo = true then 7 else 5) + 1)),
   is (undef),
   is (.int .i64 ((if wo = true then 7 else 5) + 1)),
   is (.int .i64 9)])
       ⟨is_k, is_k, is_k, is_k, is_k, is_k, trivial⟩
       ⟨fun f s W c d hs i a ha => opv rfl rfl (by simp [go_sem, ha.e 4 k41_4, cb b41_1 c 0, cb b41_1 c 1, cb b41_1 c 2, cb b41_1 c 3, cb b41_1 c 4, cb b41_1 c 5, cb b41_1 c 6]) rfl,
  fun f s W c d hs i a ha => opv rfl rfl (by simp [go_sem, ha.e 20 k41_20]) rfl,
  fun f s W c d hs i a ha => opv rfl rfl (by simp [go_sem, ha.e 99 (d 1 rfl), cb b41_10 c 1]) rfl,
  fun f s W c d hs i a ha => ops_same rfl ⟨rfl, rfl⟩ (run_seg (setRow_self W _ _ _ _ (blk_below b41_1 c)).symm (ha.v 4 k41_4) (ha.v 98 (d 0 rfl)) (blk_below b41_1 c) rfl rfl rfl rfl),
  fun f s W c d hs i a ha => opv rfl rfl (by simp [go_sem, ha.e 100 (d 2 rfl)]) rfl,
  fun f s W c d hs i a ha => opv rfl rfl (by simp [go_sem]) rfl, trivial⟩ ?_
      intro f42 s42 W42 hB42 g42 hg42
      have fB42 := hB42.f fB41
      have z42 := hB42.below.size
      have b42_0 := hB42.b b41_0
      have b42_1 := hB42.b b41_1
      have b42_2 := hB42.b b41_2
      have b42_3 := hB42.b b41_3
      have b42_4 := hB42.b b41_4
      have b42_5 := hB42.b b41_5
      have b42_6 := hB42.b b41_6
      have b42_7 := hB42.b b41_7
      have b42_8 := hB42.b b41_8
      have b42_9 := hB42.b b41_9
      have b42_10 := hB42.b b41_10
      refine hK52 _ _ ?_
      have k42_1 := kt hg42 1 k41_1
      have k42_2 := kt hg42 2 k41_2
      have k42_4 := kt hg42 4 k41_4
      have k42_8 := kt hg42 8 k41_8
      have k42_9 := kt hg42 9 k41_9
      have k42_10 := kt hg42 10 k41_10
      have k42_11 := kt hg42 11 k41_11
      have k42_12 := kt hg42 12 k41_12
      have k42_14 := kt hg42 14 k41_14
      have k42_15 := kt hg42 15 k41_15
      have k42_90 := kt hg42 90 k41_90
      have k42_91 := kt hg42 91 k41_91
      have k42_92 := kt hg42 92 k41_92
      have k42_93 := kt hg42 93 k41_93
      have k42_95 := kt hg42 95 k41_95
      have k42_20 := kt hg42 20 k41_20
      have k42_97 := kt hg42 97 k41_97
      have k42_5 := kt hg42 5 (hB42.is 4)
      have k42_6 := kt hg42 6 (hB42.is 5)
      refine wp_ret ?_
      refine inBlock_ret (then_ret (then_ret (inBlock_ret (then_ret ?_))))
      refine leave_gen (v := .tuple #[.agg #[.int .i64 0, .slice (none) (0) (0), .int .i64 0, .slice (none) (0) (0), .slice (none) (0) (0), .int .i64 0, .bool false], .int .i64 ((if wo = true then 7 else 5) + 1), .int .i64 9]) (.inr rfl) (by simp [results, Try.results54, go_sem, frv 132 k42_4, cl b42_1 0, cl b42_1 1, cl b42_1 2, cl b42_1 3, cl b42_1 4, cl b42_1 5, cl b42_1 6, frv 132 k42_5, frv 132 k42_6]) ?_
      have hs : blankOf ⟨(l1, h1), (l2, h2), (l3, h3), (l4, h4), (l5, h5), wo⟩ clo chi tab = (⟨0, [], 0, [], [], 0, false⟩, (if wo = true then 7 else 5) + 1, 9) := by
       simp only [blankOf, ← hv1, ← hv2, ← hv3, ← hp1, ← hp2, hc19, hc27, hc35, hc43, hc51, if_true, if_false, Bool.false_eq_true, Bool.not_true, Bool.not_false]
      rw [hs]
      exact ⟨fun h => absurd h (by show ¬ (9 : Int) = 0; decide), fun _ => ⟨rfl, fB42⟩⟩
     ·
      have hc51' := hc51; try simp only [ba] at hc51'
      refine wp_skip ?_
      refine inBlock_normal ?_
      refine hK48 _ _ ?_
      refine region_dk 2 [(101, 0), (92, 1)] [[], [0]] (rel [is (.int .i64 5),
   is (.int .i64 5)])
       ⟨is_k, is_k, trivial⟩
       ⟨fun f s W c d hs i a ha => opv rfl rfl (by simp [go_sem, ha.e 92 ((i 1 92 rfl rfl).trans k41_92), IntWalk.i64_in (5) (by omega)]) rfl,
  fun f s W c d hs i a ha => opv rfl rfl (by simp [go_sem, ha.e 101 (d 0 rfl)]) rfl, trivial⟩ ?_
      intro f43 s43 W43 hB43 g43 hg43
      have fB43 := hB43.f fB41
      have z43 := hB43.below.size
      have b43_0 := hB43.b b41_0
      have b43_1 := hB43.b b41_1
      have b43_2 := hB43.b b41_2
      have b43_3 := hB43.b b41_3
      have b43_4 := hB43.b b41_4
      have b43_5 := hB43.b b41_5
      have b43_6 := hB43.b b41_6
      have b43_7 := hB43.b b41_7
      have b43_8 := hB43.b b41_8
      have b43_9 := hB43.b b41_9
      have b43_10 := hB43.b b41_10
      refine wpOps_end ?_
      have k43_1 := kt hg43 1 k41_1
      have k43_2 := kt hg43 2 k41_2
      have k43_4 := kt hg43 4 k41_4
      have k43_5 := kt hg43 5 k41_5
      have k43_6 := kt hg43 6 k41_6
      have k43_8 := kt hg43 8 k41_8
      have k43_9 := kt hg43 9 k41_9
      have k43_10 := kt hg43 10 k41_10
      have k43_11 := kt hg43 11 k41_11
      have k43_12 := kt hg43 12 k41_12
      have k43_14 := kt hg43 14 k41_14
      have k43_15 := kt hg43 15 k41_15
      have k43_90 := kt hg43 90 k41_90
      have k43_91 := kt hg43 91 k41_91
      have k43_93 := kt hg43 93 k41_93
      have k43_95 := kt hg43 95 k41_95
      have k43_20 := kt hg43 20 k41_20
      have k43_97 := kt hg43 97 k41_97
      have k43_92 := kt hg43 92 (hB43.is 1)
      refine then_normal ?_
      rw [rounds_succ]
      refine wp_seq_k fun K53 hK53 => ?_
      refine region_dk 1 [(93, 0)] [[]] (rel [is (.bool false)])
       ⟨is_k, trivial⟩
       ⟨fun f s W c d hs i a ha => opv rfl rfl (by simp [go_sem, ha.e 92 k43_92, ha.e 91 k43_91]) rfl, trivial⟩ ?_
      intro f44 s44 W44 hB44 g44 hg44
      have fB44 := hB44.f fB43
      have z44 := hB44.below.size
      have b44_0 := hB44.b b43_0
      have b44_1 := hB44.b b43_1
      have b44_2 := hB44.b b43_2
      have b44_3 := hB44.b b43_3
      have b44_4 := hB44.b b43_4
      have b44_5 := hB44.b b43_5
      have b44_6 := hB44.b b43_6
      have b44_7 := hB44.b b43_7
      have b44_8 := hB44.b b43_8
      have b44_9 := hB44.b b43_9
      have b44_10 := hB44.b b43_10
      refine hK53 _ _ ?_
      have k44_1 := kt hg44 1 k43_1
      have k44_2 := kt hg44 2 k43_2
      have k44_4 := kt hg44 4 k43_4
      have k44_5 := kt hg44 5 k43_5
      have k44_6 := kt hg44 6 k43_6
      have k44_8 := kt hg44 8 k43_8
      have k44_9 := kt hg44 9 k43_9
      have k44_10 := kt hg44 10 k43_10
      have k44_11 := kt hg44 11 k43_11
      have k44_12 := kt hg44 12 k43_12
      have k44_14 := kt hg44 14 k43_14
      have k44_15 := kt hg44 15 k43_15
      have k44_90 := kt hg44 90 k43_90
      have k44_91 := kt hg44 91 k43_91
      have k44_95 := kt hg44 95 k43_95
      have k44_20 := kt hg44 20 k43_20
      have k44_97 := kt hg44 97 k43_97
      have k44_92 := kt hg44 92 k43_92
      have k44_93 := kt hg44 93 (hB44.is 0)
      refine wp_seq_k fun K54 hK54 => ?_
      refine wp_cond_false ((fr_eval rfl).trans k44_93) ?_
      refine wp_exit ?_
      refine then_exit ?_
      refine then_exit ?_
      refine inBlock_at ?_
      refine hK11 _ _ ?_
      refine wp_seq_k fun K56 hK56 => ?_
      refine region_dk 24 [(102, 0), (103, 1), (104, 2), (105, 3), (106, 4), (107, 5), (108, 6), (109, 7), (110, 8), (111, 9), (112, 10), (113, 11), (114, 12), (115, 13), (116, 14), (117, 15), (118, 16), (119, 17), (120, 18), (121, 19), (122, 20), (123, 21), (124, 22), (125, 23)] [[], [], [], [], [3], [], [5], [1, 2, 3, 4, 5, 6], [], [8], [], [], [10, 11], [], [], [13, 14], [], [16], [16, 17], [16, 17, 18], [], [20], [20, 21], [0, 1, 2, 3, 4, 5, 6, 7, 8, 9, 10, 11, 12, 13, 14, 15, 16, 17, 18, 19, 20, 21, 22], [0, 1, 2, 3, 4, 5, 6, 7, 8, 9, 10, 11, 12, 13, 14, 15, 16, 17, 18, 19, 20, 21, 22, 23]] (rel [is (.int .i64 tab),
   is (.int .i64 p1.1),
   is (.int .i64 p2.1),
   is (.pointer (some ⟨(s3 19), 0, none⟩)),
   is (.int .i64 v1.1),
   is (.pointer (some ⟨(s3 20), 0, none⟩)),
   is (.int .i64 v2.1),
   row 7 4 #[.int .i64 p1.1, .int .i64 p2.1, .int .i64 v1.1, .int .i64 v2.1] 3,
   is (.pointer (some ⟨(s3 21), 0, none⟩)),
   is (.int .i64 v3.1),
   is (.int .i64 p2.2.1),
   is (.int .i64 p1.2.1),
   row 12 2 #[.int .i64 p2.2.1, .int .i64 p1.2.1] 3,
   is (.int .i64 p2.2.1),
   is (.int .i64 p1.2.1),
   row 15 2 #[.int .i64 p2.2.1, .int .i64 p1.2.1] 3,
   is (.pointer (some ⟨(s1 0), 11, none⟩)),
   is (.pointer (some ⟨(s1 0), 12, none⟩)),
   is (.int .i64 chi),
   is (.int .i64 (upI chi 1000)),
   is (.pointer (some ⟨(s1 0), 0, none⟩)),
   is (.pointer (some ⟨(s1 0), 10, none⟩)),
   is (.bool wo),
   isS fun s => .agg #[.int .i64 tab, .slice (some ⟨(s 7), 0, none⟩) (4) (4), .int .i64 v3.1, .slice (some ⟨(s 12), 0, none⟩) (2) (2), .slice (some ⟨(s 15), 0, none⟩) (2) (2), .int .i64 (upI chi 1000), .bool wo]])
       ⟨is_k, is_k, is_k, is_k, is_k, is_k, is_k, row_k, is_k, is_k, is_k, is_k, row_k, is_k, is_k, row_k, is_k, is_k, is_k, is_k, is_k, is_k, is_k, isS_k fun s s' e => by rw [e 7 (by simp), e 12 (by simp), e 15 (by simp)], trivial⟩
       ⟨fun f s W c d hs i a ha => opv rfl rfl (by simp [go_sem, ha.e 1 k44_1]) rfl,
  fun f s W c d hs i a ha => opv rfl rfl (by simp [go_sem, ha.e 11 k44_11]) rfl,
  fun f s W c d hs i a ha => opv rfl rfl (by simp [go_sem, ha.e 14 k44_14]) rfl,
  fun f s W c d hs i a ha => opv rfl rfl (by simp [go_sem, ha.e 8 k44_8]) rfl,
  fun f s W c d hs i a ha => opv rfl rfl (by simp [go_sem, ha.e 105 (d 3 rfl), cb b44_2 c 0]) rfl,
  fun f s W c d hs i a ha => opv rfl rfl (by simp [go_sem, ha.e 9 k44_9]) rfl,
  fun f s W c d hs i a ha => opv rfl rfl (by simp [go_sem, ha.e 107 (d 5 rfl), cb b44_3 c 0]) rfl,
  fun f s W c d hs i a ha => opr rfl rfl (by simp [go_sem, ha.e 103 (d 1 rfl), ha.e 104 (d 2 rfl), ha.e 106 (d 4 rfl), ha.e 108 (d 6 rfl)]),
  fun f s W c d hs i a ha => opv rfl rfl (by simp [go_sem, ha.e 10 k44_10]) rfl,
  fun f s W c d hs i a ha => opv rfl rfl (by simp [go_sem, ha.e 110 (d 8 rfl), cb b44_4 c 0]) rfl,
  fun f s W c d hs i a ha => opv rfl rfl (by simp [go_sem, ha.e 15 k44_15]) rfl,
  fun f s W c d hs i a ha => opv rfl rfl (by simp [go_sem, ha.e 12 k44_12]) rfl,
  fun f s W c d hs i a ha => opr rfl rfl (by simp [go_sem, ha.e 112 (d 10 rfl), ha.e 113 (d 11 rfl)]),
  fun f s W c d hs i a ha => opv rfl rfl (by simp [go_sem, ha.e 15 k44_15]) rfl,
  fun f s W c d hs i a ha => opv rfl rfl (by simp [go_sem, ha.e 12 k44_12]) rfl,
  fun f s W c d hs i a ha => opr rfl rfl (by simp [go_sem, ha.e 115 (d 13 rfl), ha.e 116 (d 14 rfl)]),
  fun f s W c d hs i a ha => opv rfl rfl (by simp [go_sem, ha.e 2 k44_2]) rfl,
  fun f s W c d hs i a ha => opv rfl rfl (by simp [go_sem, ha.e 118 (d 16 rfl)]) rfl,
  fun f s W c d hs i a ha => opv rfl rfl (by simp [go_sem, ha.e 119 (d 17 rfl), cb b44_0 c 12]) rfl,
  fun f s W c d hs i a ha => opDo_call rfl rfl (by simp [go_sem, ha.e 120 (d 18 rfl)]) (up_any chi 1000 W (by omega) (by omega) (by omega) (by omega)) (fun e W' h => ⟨_, h.1, by rw [← h.2]; exact Below.refl _ _, rfl⟩),
  fun f s W c d hs i a ha => opv rfl rfl (by simp [go_sem, ha.e 2 k44_2]) rfl,
  fun f s W c d hs i a ha => opv rfl rfl (by simp [go_sem, ha.e 122 (d 20 rfl)]) rfl,
  fun f s W c d hs i a ha => opv rfl rfl (by simp [go_sem, ha.e 123 (d 21 rfl), cb b44_0 c 10]) rfl,
  fun f s W c d hs i a ha => opv rfl rfl (by simp [go_sem, ha.e 102 (d 0 rfl), ha.e 109 (d 7 rfl).1, ha.e 111 (d 9 rfl), ha.e 114 (d 12 rfl).1, ha.e 117 (d 15 rfl).1, ha.e 121 (d 19 rfl), ha.e 124 (d 22 rfl), upd]) rfl, trivial⟩ ?_
      intro f45 s45 W45 hB45 g45 hg45
      have fB45 := hB45.f fB44
      have z45 := hB45.below.size
      have b45_0 := hB45.b b44_0
      have b45_1 := hB45.b b44_1
      have b45_2 := hB45.b b44_2
      have b45_3 := hB45.b b44_3
      have b45_4 := hB45.b b44_4
      have b45_5 := hB45.b b44_5
      have b45_6 := hB45.b b44_6
      have b45_7 := hB45.b b44_7
      have b45_8 := hB45.b b44_8
      have b45_9 := hB45.b b44_9
      have b45_10 := hB45.b b44_10
      obtain ⟨r45_7, br45_7⟩ := hB45.is 7
      have lr45_7 := hB45.lr 7 br45_7
      obtain ⟨r45_12, br45_12⟩ := hB45.is 12
      have lr45_12 := hB45.lr 12 br45_12
      obtain ⟨r45_15, br45_15⟩ := hB45.is 15
      have lr45_15 := hB45.lr 15 br45_15
      have ne45_7_12 : s45 7 ≠ s45 12 := hB45.ne 7 12 (by decide) (by decide) (by decide) (fun _ _ _ h => lt_of_blk h.2) (fun _ _ _ h => lt_of_blk h.2)
      have ne45_7_15 : s45 7 ≠ s45 15 := hB45.ne 7 15 (by decide) (by decide) (by decide) (fun _ _ _ h => lt_of_blk h.2) (fun _ _ _ h => lt_of_blk h.2)
      have ne45_12_15 : s45 12 ≠ s45 15 := hB45.ne 12 15 (by decide) (by decide) (by decide) (fun _ _ _ h => lt_of_blk h.2) (fun _ _ _ h => lt_of_blk h.2)
      have k45_2 := kt hg45 2 k44_2
      have k45_4 := kt hg45 4 k44_4
      have k45_5 := kt hg45 5 k44_5
      have k45_6 := kt hg45 6 k44_6
      have k45_125 := kt hg45 125 (hB45.is 23)
      obtain ⟨W46, hW46⟩ : ∃ W', W' = W45.setRow (s1 1) #[.int .i64 tab, .slice (some ⟨(s45 7), 0, none⟩) (4) (4), .int .i64 v3.1, .slice (some ⟨(s45 12), 0, none⟩) (2) (2), .slice (some ⟨(s45 15), 0, none⟩) (2) (2), .int .i64 (upI chi 1000), .bool wo] := ⟨_, rfl⟩
      refine tail_skip (o := _) rfl ⟨rfl, rfl⟩ (run_seg hW46 (fr_ev k45_4) (fr_ev k45_125) b45_1 rfl rfl rfl rfl) ?_
      obtain ⟨fB46, nb46, ot46, z46⟩ := seg_facts hW46 fB45 b45_1 (by omega)
      clear hW46
      have b46_0 := ot46 _ _ (by omega) b45_0
      have b46_2 := ot46 _ _ (by omega) b45_2
      have b46_3 := ot46 _ _ (by omega) b45_3
      have b46_4 := ot46 _ _ (by omega) b45_4
      have b46_5 := ot46 _ _ (by omega) b45_5
      have b46_6 := ot46 _ _ (by omega) b45_6
      have b46_7 := ot46 _ _ (by omega) b45_7
      have b46_8 := ot46 _ _ (by omega) b45_8
      have b46_9 := ot46 _ _ (by omega) b45_9
      have b46_10 := ot46 _ _ (by omega) b45_10
      have b46_11 := ot46 _ _ (by omega) br45_7
      have b46_12 := ot46 _ _ (by omega) br45_12
      have b46_13 := ot46 _ _ (by omega) br45_15
      refine wpOps_end ?_
      refine hK56 _ _ ?_
      refine wp_seq_k fun K57 hK57 => ?_
      refine wp_seq_k fun K58 hK58 => ?_
      refine region_dk 3 [(126, 0), (127, 1), (128, 2)] [[], [0], [0, 1]] (rel [is (.pointer (some ⟨(s1 0), 0, none⟩)),
   is (.pointer (some ⟨(s1 0), 10, none⟩)),
   is (.bool wo)])
       ⟨is_k, is_k, is_k, trivial⟩
       ⟨fun f s W c d hs i a ha => opv rfl rfl (by simp [go_sem, ha.e 2 k45_2]) rfl,
  fun f s W c d hs i a ha => opv rfl rfl (by simp [go_sem, ha.e 126 (d 0 rfl)]) rfl,
  fun f s W c d hs i a ha => opv rfl rfl (by simp [go_sem, ha.e 127 (d 1 rfl), cb b46_0 c 10]) rfl, trivial⟩ ?_
      intro f47 s47 W47 hB47 g47 hg47
      have fB47 := hB47.f fB46
      have z47 := hB47.below.size
      have b47_0 := hB47.b b46_0
      have b47_1 := hB47.b nb46
      have b47_2 := hB47.b b46_2
      have b47_3 := hB47.b b46_3
      have b47_4 := hB47.b b46_4
      have b47_5 := hB47.b b46_5
      have b47_6 := hB47.b b46_6
      have b47_7 := hB47.b b46_7
      have b47_8 := hB47.b b46_8
      have b47_9 := hB47.b b46_9
      have b47_10 := hB47.b b46_10
      have b47_11 := hB47.b b46_11
      have b47_12 := hB47.b b46_12
      have b47_13 := hB47.b b46_13
      refine hK58 _ _ ?_
      have k47_4 := kt hg47 4 k45_4
      have k47_5 := kt hg47 5 k45_5
      have k47_6 := kt hg47 6 k45_6
      have k47_128 := kt hg47 128 (hB47.is 2)
      refine wp_cond_split (t := wo) ((fr_eval rfl).trans k47_128) (fun hc59 => ?_) (fun hc59 => ?_)
      ·
       have hc59' := hc59; try simp only [ba] at hc59'
       refine region_dk 2 [(129, 0), (130, 1)] [[], [0], [0, 1]] (rel [row 0 2 #[.int .i64 0, .int .i64 0] 3,
   is (.pointer (some ⟨(s1 1), 3, none⟩))])
        ⟨row_k, is_k, trivial⟩
        ⟨fun f s W c d hs i a ha => opr rfl rfl (by kernel_rfl),
  fun f s W c d hs i a ha => opv rfl rfl (by simp [go_sem, ha.e 4 k47_4]) rfl, trivial⟩ ?_
       intro f48 s48 W48 hB48 g48 hg48
       have fB48 := hB48.f fB47
       have z48 := hB48.below.size
       have b48_0 := hB48.b b47_0
       have b48_1 := hB48.b b47_1
       have b48_2 := hB48.b b47_2
       have b48_3 := hB48.b b47_3
       have b48_4 := hB48.b b47_4
       have b48_5 := hB48.b b47_5
       have b48_6 := hB48.b b47_6
       have b48_7 := hB48.b b47_7
       have b48_8 := hB48.b b47_8
       have b48_9 := hB48.b b47_9
       have b48_10 := hB48.b b47_10
       have b48_11 := hB48.b b47_11
       have b48_12 := hB48.b b47_12
       have b48_13 := hB48.b b47_13
       obtain ⟨r48_0, br48_0⟩ := hB48.is 0
       have lr48_0 := hB48.lr 0 br48_0
       have k48_4 := kt hg48 4 k47_4
       have k48_5 := kt hg48 5 k47_5
       have k48_6 := kt hg48 6 k47_6
       have k48_129 := kt hg48 129 r48_0
       have k48_130 := kt hg48 130 (hB48.is 1)
       obtain ⟨W49, hW49⟩ : ∃ W', W' = W48.setRow (s1 1) #[.int .i64 tab, .slice (some ⟨(s45 7), 0, none⟩) (4) (4), .int .i64 v3.1, .slice (some ⟨(s48 0), 0, none⟩) (2) (2), .slice (some ⟨(s45 15), 0, none⟩) (2) (2), .int .i64 (upI chi 1000), .bool wo] := ⟨_, rfl⟩
       refine tail_skip (o := _) rfl ⟨rfl, rfl⟩ (run_seg hW49 (fr_ev k48_130) (fr_ev k48_129) b48_1 rfl rfl rfl rfl) ?_
       obtain ⟨fB49, nb49, ot49, z49⟩ := seg_facts hW49 fB48 b48_1 (by omega)
       clear hW49
       have b49_0 := ot49 _ _ (by omega) b48_0
       have b49_2 := ot49 _ _ (by omega) b48_2
       have b49_3 := ot49 _ _ (by omega) b48_3
       have b49_4 := ot49 _ _ (by omega) b48_4
       have b49_5 := ot49 _ _ (by omega) b48_5
       have b49_6 := ot49 _ _ (by omega) b48_6
       have b49_7 := ot49 _ _ (by omega) b48_7
       have b49_8 := ot49 _ _ (by omega) b48_8
       have b49_9 := ot49 _ _ (by omega) b48_9
       have b49_10 := ot49 _ _ (by omega) b48_10
       have b49_11 := ot49 _ _ (by omega) b48_11
       have b49_12 := ot49 _ _ (by omega) b48_12
       have b49_13 := ot49 _ _ (by omega) b48_13
       have b49_14 := ot49 _ _ (by omega) br48_0
       refine wpOps_end ?_
       refine hK57 _ _ ?_
       refine wp_seq_k fun K60 hK60 => ?_
       refine region_dk 4 [(131, 0), (5, 2), (6, 3)] [[], [0], [0, 1], [0, 1, 2]] (rel [is (.agg #[.int .i64 tab, .slice (some ⟨(s45 7), 0, none⟩) (4) (4), .int .i64 v3.1, .slice (some ⟨(s48 0), 0, none⟩) (2) (2), .slice (some ⟨(s45 15), 0, none⟩) (2) (2), .int .i64 (upI chi 1000), .bool wo]),
   is (undef),
   is (.int .i64 0),
   is (.int .i64 0)])
        ⟨is_k, is_k, is_k, is_k, trivial⟩
        ⟨fun f s W c d hs i a ha => opv rfl rfl (by simp [go_sem, ha.e 4 k48_4, cb nb49 c 0, cb nb49 c 1, cb nb49 c 2, cb nb49 c 3, cb nb49 c 4, cb nb49 c 5, cb nb49 c 6]) rfl,
  fun f s W c d hs i a ha => ops_same rfl ⟨rfl, rfl⟩ (run_seg (setRow_self W _ _ _ _ (blk_below nb49 c)).symm (ha.v 4 k48_4) (ha.v 131 (d 0 rfl)) (blk_below nb49 c) rfl rfl rfl rfl),
  fun f s W c d hs i a ha => opv rfl rfl (by simp [go_sem]) rfl,
  fun f s W c d hs i a ha => opv rfl rfl (by simp [go_sem]) rfl, trivial⟩ ?_
       intro f50 s50 W50 hB50 g50 hg50
       have fB50 := hB50.f fB49
       have z50 := hB50.below.size
       have b50_0 := hB50.b b49_0
       have b50_1 := hB50.b nb49
       have b50_2 := hB50.b b49_2
       have b50_3 := hB50.b b49_3
       have b50_4 := hB50.b b49_4
       have b50_5 := hB50.b b49_5
       have b50_6 := hB50.b b49_6
       have b50_7 := hB50.b b49_7
       have b50_8 := hB50.b b49_8
       have b50_9 := hB50.b b49_9
       have b50_10 := hB50.b b49_10
       have b50_11 := hB50.b b49_11
       have b50_12 := hB50.b b49_12
       have b50_13 := hB50.b b49_13
       have b50_14 := hB50.b b49_14
       refine hK60 _ _ ?_
       have k50_4 := kt hg50 4 k48_4
       have k50_5 := kt hg50 5 (hB50.is 2)
       have k50_6 := kt hg50 6 (hB50.is 3)
       refine wp_ret ?_
       refine leave_gen (v := .tuple #[.agg #[.int .i64 tab, .slice (some ⟨(s45 7), 0, none⟩) (4) (4), .int .i64 v3.1, .slice (some ⟨(s48 0), 0, none⟩) (2) (2), .slice (some ⟨(s45 15), 0, none⟩) (2) (2), .int .i64 (upI chi 1000), .bool wo], .int .i64 0, .int .i64 0]) (.inr rfl) (by simp [results, Try.results54, go_sem, frv 132 k50_4, cl b50_1 0, cl b50_1 1, cl b50_1 2, cl b50_1 3, cl b50_1 4, cl b50_1 5, cl b50_1 6, frv 132 k50_5, frv 132 k50_6]) ?_
       have hs : blankOf ⟨(l1, h1), (l2, h2), (l3, h3), (l4, h4), (l5, h5), wo⟩ clo chi tab = (⟨tab, [p1.1, p2.1, v1.1, v2.1], v3.1, [0, 0], [p2.2.1, p1.2.1], upI chi 1000, wo⟩, 0, 0) := by
        simp only [blankOf, ← hv1, ← hv2, ← hv3, ← hp1, ← hp2, hc19, hc27, hc35, hc43, hc51, if_true, if_false, Bool.false_eq_true, Bool.not_true, Bool.not_false]; simp [hc59]
       rw [hs]
       exact ⟨fun _ => ⟨_, rfl, ⟨_, _, _, _, _, _, rfl, ⟨ii_block (xs := [p1.1, p2.1, v1.1, v2.1]) b50_11 rfl rfl, by omega, lt_of_blk b50_11⟩, ⟨ii_block (xs := [0, 0]) b50_14 rfl rfl, by omega, lt_of_blk b50_14⟩, ⟨ii_block (xs := [p2.2.1, p1.2.1]) b50_13 rfl rfl, by omega, lt_of_blk b50_13⟩⟩, fB50⟩, fun h => absurd rfl h⟩
      ·
       have hc59' := hc59; try simp only [ba] at hc59'
       refine wp_skip ?_
       refine hK57 _ _ ?_
       refine wp_seq_k fun K61 hK61 => ?_
       refine region_dk 4 [(131, 0), (5, 2), (6, 3)] [[], [0], [0, 1], [0, 1, 2]] (rel [is (.agg #[.int .i64 tab, .slice (some ⟨(s45 7), 0, none⟩) (4) (4), .int .i64 v3.1, .slice (some ⟨(s45 12), 0, none⟩) (2) (2), .slice (some ⟨(s45 15), 0, none⟩) (2) (2), .int .i64 (upI chi 1000), .bool wo]),
   is (undef),
   is (.int .i64 0),
   is (.int .i64 0)])
        ⟨is_k, is_k, is_k, is_k, trivial⟩
        ⟨fun f s W c d hs i a ha => opv rfl rfl (by simp [go_sem, ha.e 4 k47_4, cb b47_1 c 0, cb b47_1 c 1, cb b47_1 c 2, cb b47_1 c 3, cb b47_1 c 4, cb b47_1 c 5, cb b47_1 c 6]) rfl,
  fun f s W c d hs i a ha => ops_same rfl ⟨rfl, rfl⟩ (run_seg (setRow_self W _ _ _ _ (blk_below b47_1 c)).symm (ha.v 4 k47_4) (ha.v 131 (d 0 rfl)) (blk_below b47_1 c) rfl rfl rfl rfl),
  fun f s W c d hs i a ha => opv rfl rfl (by simp [go_sem]) rfl,
  fun f s W c d hs i a ha => opv rfl rfl (by simp [go_sem]) rfl, trivial⟩ ?_
       intro f51 s51 W51 hB51 g51 hg51
       have fB51 := hB51.f fB47
       have z51 := hB51.below.size
       have b51_0 := hB51.b b47_0
       have b51_1 := hB51.b b47_1
       have b51_2 := hB51.b b47_2
       have b51_3 := hB51.b b47_3
       have b51_4 := hB51.b b47_4
       have b51_5 := hB51.b b47_5
       have b51_6 := hB51.b b47_6
       have b51_7 := hB51.b b47_7
       have b51_8 := hB51.b b47_8
       have b51_9 := hB51.b b47_9
       have b51_10 := hB51.b b47_10
       have b51_11 := hB51.b b47_11
       have b51_12 := hB51.b b47_12
       have b51_13 := hB51.b b47_13
       refine hK61 _ _ ?_
       have k51_4 := kt hg51 4 k47_4
       have k51_5 := kt hg51 5 (hB51.is 2)
       have k51_6 := kt hg51 6 (hB51.is 3)
       refine wp_ret ?_
       refine leave_gen (v := .tuple #[.agg #[.int .i64 tab, .slice (some ⟨(s45 7), 0, none⟩) (4) (4), .int .i64 v3.1, .slice (some ⟨(s45 12), 0, none⟩) (2) (2), .slice (some ⟨(s45 15), 0, none⟩) (2) (2), .int .i64 (upI chi 1000), .bool wo], .int .i64 0, .int .i64 0]) (.inr rfl) (by simp [results, Try.results54, go_sem, frv 132 k51_4, cl b51_1 0, cl b51_1 1, cl b51_1 2, cl b51_1 3, cl b51_1 4, cl b51_1 5, cl b51_1 6, frv 132 k51_5, frv 132 k51_6]) ?_
       have hs : blankOf ⟨(l1, h1), (l2, h2), (l3, h3), (l4, h4), (l5, h5), wo⟩ clo chi tab = (⟨tab, [p1.1, p2.1, v1.1, v2.1], v3.1, [p2.2.1, p1.2.1], [p2.2.1, p1.2.1], upI chi 1000, wo⟩, 0, 0) := by
        simp only [blankOf, ← hv1, ← hv2, ← hv3, ← hp1, ← hp2, hc19, hc27, hc35, hc43, hc51, if_true, if_false, Bool.false_eq_true, Bool.not_true, Bool.not_false]; simp [hc59]
       rw [hs]
       exact ⟨fun _ => ⟨_, rfl, ⟨_, _, _, _, _, _, rfl, ⟨ii_block (xs := [p1.1, p2.1, v1.1, v2.1]) b51_11 rfl rfl, by omega, lt_of_blk b51_11⟩, ⟨ii_block (xs := [p2.2.1, p1.2.1]) b51_12 rfl rfl, by omega, lt_of_blk b51_12⟩, ⟨ii_block (xs := [p2.2.1, p1.2.1]) b51_13 rfl rfl, by omega, lt_of_blk b51_13⟩⟩, fB51⟩, fun h => absurd rfl h⟩
end Go.Proofs.Ythnediamopehfaa
