/- Part of the proof: what the claim leans on. -/
import Derived.Test.YthnediamopehfaaGreatVMAS1
set_option maxHeartbeats 8000000
set_option maxRecDepth 100000
set_option linter.unusedSimpArgs false
set_option linter.unusedVariables false
namespace Go.Proofs.YthnediamopehfaaGreat
open Go.RowKit
def holdsR (b : Bl) (w : Wi) (k : Nat) (c : Int) : Bool :=
  match k with
  | 0 => fitsR (panR b 0 c) w.length.1 w.length.2
  | 1 => fitsR (panR b 1 c) w.width.1 w.width.2
  | 2 => fitsR (panR b 2 c) w.length.1 w.length.2
  | 3 => fitsR (panR b 3 c) w.width.1 w.width.2
  | 4 => fitsR (heightR b c) w.height.1 w.height.2
  | 5 => if (b.isOpen || w.isOpen) = true then (b.isOpen && w.isOpen) else fitsR (gapR b true true c) w.outer.1 w.outer.2
  | 6 => (b.isOpen || w.isOpen) || fitsR (gapR b true false c) w.inner.1 w.inner.2
  | 7 => fitsR (gapR b false true c) w.outer.1 w.outer.2
  | 8 => fitsR (gapR b false false c) w.inner.1 w.inner.2
  | _ => decide (c ≤ 1000 * b.slot)
theorem holdsR_any (a1 a2 a3 : Option Addr) (c1 c2 c3 : Nat) (b : Bl) (l1 h1' l2 h2' l3 h3' l4 h4' l5 h5' : Int) (wo : Bool) (k : Nat) (cal : Int) (w : World) (h1 : Ii w a1 b.panels.length c1 b.panels) (h2 : Ii w a2 b.top.length c2 b.top) (h3 : Ii w a3 b.bottom.length c3 b.bottom) (hck : checkErr b = 0) (hw : WishIn ⟨(l1, h1'), (l2, h2'), (l3, h3'), (l4, h4'), (l5, h5'), wo⟩) (gcl : 0 ≤ cal ∧ cal ≤ 100000) (hk : k < 10) :
  Calls Tryz.prog 65 #[.agg #[.int .i64 b.tab, .slice a1 (b.panels.length) c1, .int .i64 b.height, .slice a2 (b.top.length) c2, .slice a3 (b.bottom.length) c3, .int .i64 b.slot, .bool b.isOpen], .agg #[.int .i64 l1, .int .i64 (h1'), .int .i64 l2, .int .i64 (h2'), .int .i64 l3, .int .i64 (h3'), .int .i64 l4, .int .i64 (h4'), .int .i64 l5, .int .i64 (h5'), .bool wo], .int .i64 ((k : Int)), .int .i64 cal] w (fun e w' => e = .returned (.bool (holdsR b ⟨(l1, h1'), (l2, h2'), (l3, h3'), (l4, h4'), (l5, h5'), wo⟩ k cal)) ∧ Below w.heap.size w w') := by
 have hm1 := h1.len_le
 obtain ⟨⟨hl1, hl2, hl3⟩, gt, gs, gh, ⟨gp0, gp1, gp2, gp3⟩, gt0, gt1, gu0, gu1⟩ := good_nums hck
 obtain ⟨wa1, wa2, wa3, wa4⟩ := hw (l1, h1') (by simp)
 obtain ⟨wb1, wb2, wb3, wb4⟩ := hw (l2, h2') (by simp)
 obtain ⟨wc1, wc2, wc3, wc4⟩ := hw (l3, h3') (by simp)
 obtain ⟨wd1, wd2, wd3, wd4⟩ := hw (l4, h4') (by simp)
 obtain ⟨we1, we2, we3, we4⟩ := hw (l5, h5') (by simp)
 simp only at wa1 wa2 wa3 wa4 wb1 wb2 wb3 wb4 wc1 wc2 wc3 wc4 wd1 wd2 wd3 wd4 we1 we2 we3 we4
 refine calls_fr Tryz.func65 Tryz.ntmps65 rfl rfl fun g hg => ?_
 have k0 : g 0 = .agg #[.int .i64 b.tab, .slice a1 (b.panels.length) c1, .int .i64 b.height, .slice a2 (b.top.length) c2, .slice a3 (b.bottom.length) c3, .int .i64 b.slot, .bool b.isOpen] := hg 0
 have k1 : g 1 = .agg #[.int .i64 l1, .int .i64 (h1'), .int .i64 l2, .int .i64 (h2'), .int .i64 l3, .int .i64 (h3'), .int .i64 l4, .int .i64 (h4'), .int .i64 l5, .int .i64 (h5'), .bool wo] := hg 1
 have k2 : g 2 = .int .i64 ((k : Int)) := hg 2
 have k3 : g 3 = .int .i64 cal := hg 3
 clear hg
 have fB0 : Below w.heap.size w w := Below.refl _ _
 refine rw_ 3 [(4, 0), (5, 1), (8, 2)] [[], [], []] (rel [bx 0 #[.int .i64 b.tab, .slice a1 (b.panels.length) c1, .int .i64 b.height, .slice a2 (b.top.length) c2, .slice a3 (b.bottom.length) c3, .int .i64 b.slot, .bool b.isOpen] 24, bx 1 #[.int .i64 l1, .int .i64 (h1'), .int .i64 l2, .int .i64 (h2'), .int .i64 l3, .int .i64 (h3'), .int .i64 l4, .int .i64 (h4'), .int .i64 l5, .int .i64 (h5'), .bool wo] 43, iB false])
  ⟨fun f s W h i j l m a => opb rfl rfl (by simp [go_sem, a.e 0 k0]),
  fun f s W h i j l m a => opb rfl rfl (by simp [go_sem, a.e 1 k1]),
  fun f s W h i j l m a => opz, trivial⟩ ?_
 intro f1 s1 W1 hB1 g1 hg1 z1
 obtain ⟨r1_0, br1_0⟩ := hB1.is 0
 have lr1_0 := hB1.lr 0 br1_0
 obtain ⟨r1_1, br1_1⟩ := hB1.is 1
 have lr1_1 := hB1.lr 1 br1_1
 have ne1_0_1 := hB1.nb 0 1
 have k1_2 := kt hg1 2 k2
 refine wp_seq_k fun K2 hK2 => ?_
 refine rw_ 1 [(9, 0)] [[]] (rel [iI ((k : Int))])
  ⟨fun f s W h i j l m a => opm (a.v 2 k1_2), trivial⟩ ?_
 intro f2 s2 W2 hB2 g2 hg2 z2
 have k2_9 := kt hg2 9 (hB2.is 0)
 refine wp_block ?_
 refine wp_seq_k fun K4 hK4 => ?_
 refine rw_ 2 [(11, 0), (10, 1)] [[], [0]] (rel [iB ((k : Int) == 0), iB ((k : Int) == 0)])
  ⟨fun f s W h i j l m a => opv rfl rfl (by simp [go_sem, a.e 9 k2_9]) rfl,
  fun f s W h i j l m a => opm (a.v 11 (i 0 rfl)), trivial⟩ ?_
 intro f3 s3 W3 hB3 g3 hg3 z3
 have fB3 := hB3.f (hB2.f (hB1.f fB0))
 have b3_0 := hB3.b (hB2.b br1_0)
 have b3_1 := hB3.b (hB2.b br1_1)
 have k3_2 := kt hg3 2 (kt hg2 2 k1_2)
 have k3_3 := kt hg3 3 (kt hg2 3 (kt hg1 3 k3))
 have k3_4 := kt hg3 4 (kt hg2 4 (kt hg1 4 r1_0))
 have k3_5 := kt hg3 5 (kt hg2 5 (kt hg1 5 r1_1))
 have k3_9 := kt hg3 9 k2_9
 have k3_10 := kt hg3 10 (hB3.is 1)
 refine wp_cond_split (t := (k : Int) == 0) ((fr_eval rfl).trans k3_10) (fun hc6 => ?_) (fun hc6 => ?_)
 ·
  have hc6' := hc6; try simp only [ba] at hc6'
  have hk_ : k = 0 := by have h' := beq_iff_eq.1 hc6; omega
  have pk := panels_in hck (by omega : k < 4)
  refine wp_skip ?_
  refine hK4 _ _ ?_
  have hc7 : (fr 95 g3).eval (.tmp 10) = .bool true := ((fr_eval rfl).trans k3_10).trans (by rw [hc6])
  refine wp_cond_true (hc7) ?_
  refine rw_ 8 [(13, 0), (14, 1), (15, 2), (16, 3), (17, 4), (18, 5), (19, 6), (8, 7)] [[], [], [], [0, 1, 2], [], [4], [3, 5], [6]] (rel [is (.agg #[.int .i64 b.tab, .slice a1 (b.panels.length) c1, .int .i64 b.height, .slice a2 (b.top.length) c2, .slice a3 (b.bottom.length) c3, .int .i64 b.slot, .bool b.isOpen]), iI ((k : Int)), iI cal, iI ((panR b k cal)), is (.pointer (some ⟨(s1 1), 0, none⟩)), is (.agg #[.int .i64 l1, .int .i64 (h1')]), iB (fitsR (panR b k cal) l1 h1'), iB (fitsR (panR b k cal) l1 h1')])
   ⟨fun f s W h i j l m a => opv rfl rfl (by simp [go_sem, a.e 4 k3_4, cb b3_0 h 0, cb b3_0 h 1, cb b3_0 h 2, cb b3_0 h 3, cb b3_0 h 4, cb b3_0 h 5, cb b3_0 h 6]) rfl,
  fun f s W h i j l m a => opm (a.v 2 k3_2),
  fun f s W h i j l m a => opm (a.v 3 k3_3),
  fun f s W h i j l m a => by have n := bwt fB3 h; exact opc (args := #[.agg #[.int .i64 b.tab, .slice a1 (b.panels.length) c1, .int .i64 b.height, .slice a2 (b.top.length) c2, .slice a3 (b.bottom.length) c3, .int .i64 b.slot, .bool b.isOpen], .int .i64 ((k : Int)), .int .i64 cal]) rfl rfl (by simp [go_sem, a.e 13 (i 0 rfl), a.e 14 (i 1 rfl), a.e 15 (i 2 rfl)]) (panR_any a1 a2 a3 c1 c2 c3 b k (k : Int) _ cal W (h1.below n (Nat.le_refl _)) (h2.below n (Nat.le_refl _)) (h3.below n (Nat.le_refl _)) rfl pk.1 rfl (by omega) (by omega) (by omega) (by omega)),
  fun f s W h i j l m a => opv rfl rfl (by simp [go_sem, a.e 5 k3_5]) rfl,
  fun f s W h i j l m a => opv rfl rfl (by simp [go_sem, a.e 17 (i 4 rfl), cb b3_1 h 0, cb b3_1 h 1]) rfl,
  fun f s W h i j l m a => opc rfl rfl (by simp [go_sem, a.e 16 (i 3 rfl), a.e 18 (i 5 rfl)]) (fitsR_any (panR b k cal) l1 h1' W (by omega) (by omega) (by omega) (by omega)),
  fun f s W h i j l m a => opm (a.v 19 (i 6 rfl)), trivial⟩ ?_
  intro f4 s4 W4 hB4 g4 hg4 z4
  have fB4 := hB4.f fB3
  have k4_8 := kt hg4 8 (hB4.is 7)
  refine wp_ret ?_
  refine inBlock_ret (then_ret ?_)
  refine leave_one (N := 95) (.inr rfl) Tryz.results65 rfl k4_8 ?_
  subst hk_
  exact ⟨rfl, fB4⟩
 ·
  have hc6' := hc6; try simp only [ba] at hc6'
  have hn0 : k ≠ 0 := by have h' := beq_eq_false_iff_ne.1 hc6; omega
  refine ry 2 [(12, 0), (10, 1)] [[], [0]] (rel [iB ((k : Int) == 2), iB ((k : Int) == 2)])
   ⟨fun f s W h i j l m a => opv rfl rfl (by simp [go_sem, a.e 9 k3_9]) rfl,
  fun f s W h i j l m a => opm (a.v 12 (i 0 rfl)), trivial⟩ ?_
  intro f5 s5 W5 hB5 g5 hg5 z5
  have fB5 := hB5.f fB3
  have b5_0 := hB5.b b3_0
  have b5_1 := hB5.b b3_1
  refine hK4 _ _ ?_
  have k5_2 := kt hg5 2 k3_2
  have k5_3 := kt hg5 3 k3_3
  have k5_4 := kt hg5 4 k3_4
  have k5_5 := kt hg5 5 k3_5
  have k5_9 := kt hg5 9 k3_9
  have k5_10 := kt hg5 10 (hB5.is 1)
  refine wp_cond_split (t := (k : Int) == 2) ((fr_eval rfl).trans k5_10) (fun hc9 => ?_) (fun hc9 => ?_)
  ·
   have hc9' := hc9; try simp only [ba] at hc9'
   have hk_ : k = 2 := by have h' := beq_iff_eq.1 hc9; omega
   have pk := panels_in hck (by omega : k < 4)
   refine rw_ 8 [(13, 0), (14, 1), (15, 2), (16, 3), (17, 4), (18, 5), (19, 6), (8, 7)] [[], [], [], [0, 1, 2], [], [4], [3, 5], [6]] (rel [is (.agg #[.int .i64 b.tab, .slice a1 (b.panels.length) c1, .int .i64 b.height, .slice a2 (b.top.length) c2, .slice a3 (b.bottom.length) c3, .int .i64 b.slot, .bool b.isOpen]), iI ((k : Int)), iI cal, iI ((panR b k cal)), is (.pointer (some ⟨(s1 1), 0, none⟩)), is (.agg #[.int .i64 l1, .int .i64 (h1')]), iB (fitsR (panR b k cal) l1 h1'), iB (fitsR (panR b k cal) l1 h1')])
    ⟨fun f s W h i j l m a => opv rfl rfl (by simp [go_sem, a.e 4 k5_4, cb b5_0 h 0, cb b5_0 h 1, cb b5_0 h 2, cb b5_0 h 3, cb b5_0 h 4, cb b5_0 h 5, cb b5_0 h 6]) rfl,
  fun f s W h i j l m a => opm (a.v 2 k5_2),
  fun f s W h i j l m a => opm (a.v 3 k5_3),
  fun f s W h i j l m a => by have n := bwt fB5 h; exact opc (args := #[.agg #[.int .i64 b.tab, .slice a1 (b.panels.length) c1, .int .i64 b.height, .slice a2 (b.top.length) c2, .slice a3 (b.bottom.length) c3, .int .i64 b.slot, .bool b.isOpen], .int .i64 ((k : Int)), .int .i64 cal]) rfl rfl (by simp [go_sem, a.e 13 (i 0 rfl), a.e 14 (i 1 rfl), a.e 15 (i 2 rfl)]) (panR_any a1 a2 a3 c1 c2 c3 b k (k : Int) _ cal W (h1.below n (Nat.le_refl _)) (h2.below n (Nat.le_refl _)) (h3.below n (Nat.le_refl _)) rfl pk.1 rfl (by omega) (by omega) (by omega) (by omega)),
  fun f s W h i j l m a => opv rfl rfl (by simp [go_sem, a.e 5 k5_5]) rfl,
  fun f s W h i j l m a => opv rfl rfl (by simp [go_sem, a.e 17 (i 4 rfl), cb b5_1 h 0, cb b5_1 h 1]) rfl,
  fun f s W h i j l m a => opc rfl rfl (by simp [go_sem, a.e 16 (i 3 rfl), a.e 18 (i 5 rfl)]) (fitsR_any (panR b k cal) l1 h1' W (by omega) (by omega) (by omega) (by omega)),
  fun f s W h i j l m a => opm (a.v 19 (i 6 rfl)), trivial⟩ ?_
   intro f6 s6 W6 hB6 g6 hg6 z6
   have fB6 := hB6.f fB5
   have k6_8 := kt hg6 8 (hB6.is 7)
   refine wp_ret ?_
   refine inBlock_ret (then_ret ?_)
   refine leave_one (N := 95) (.inr rfl) Tryz.results65 rfl k6_8 ?_
   subst hk_
   exact ⟨rfl, fB6⟩
  ·
   have hc9' := hc9; try simp only [ba] at hc9'
   have hn2 : k ≠ 2 := by have h' := beq_eq_false_iff_ne.1 hc9; omega
   refine wp_seq_k fun K11 hK11 => ?_
   refine rw_ 2 [(21, 0), (20, 1)] [[], [0]] (rel [iB ((k : Int) == 1), iB ((k : Int) == 1)])
    ⟨fun f s W h i j l m a => opv rfl rfl (by simp [go_sem, a.e 9 k5_9]) rfl,
  fun f s W h i j l m a => opm (a.v 21 (i 0 rfl)), trivial⟩ ?_
   intro f7 s7 W7 hB7 g7 hg7 z7
   have fB7 := hB7.f fB5
   have b7_0 := hB7.b b5_0
   have b7_1 := hB7.b b5_1
   have k7_2 := kt hg7 2 k5_2
   have k7_3 := kt hg7 3 k5_3
   have k7_4 := kt hg7 4 k5_4
   have k7_5 := kt hg7 5 k5_5
   have k7_9 := kt hg7 9 k5_9
   have k7_20 := kt hg7 20 (hB7.is 1)
   refine wp_cond_split (t := (k : Int) == 1) ((fr_eval rfl).trans k7_20) (fun hc13 => ?_) (fun hc13 => ?_)
   ·
    have hc13' := hc13; try simp only [ba] at hc13'
    have hk_ : k = 1 := by have h' := beq_iff_eq.1 hc13; omega
    have pk := panels_in hck (by omega : k < 4)
    refine wp_skip ?_
    refine hK11 _ _ ?_
    have hc14 : (fr 95 g7).eval (.tmp 20) = .bool true := ((fr_eval rfl).trans k7_20).trans (by rw [hc13])
    refine wp_cond_true (hc14) ?_
    refine rw_ 8 [(23, 0), (24, 1), (25, 2), (26, 3), (27, 4), (28, 5), (29, 6), (8, 7)] [[], [], [], [0, 1, 2], [], [4], [3, 5], [6]] (rel [is (.agg #[.int .i64 b.tab, .slice a1 (b.panels.length) c1, .int .i64 b.height, .slice a2 (b.top.length) c2, .slice a3 (b.bottom.length) c3, .int .i64 b.slot, .bool b.isOpen]), iI ((k : Int)), iI cal, iI ((panR b k cal)), is (.pointer (some ⟨(s1 1), 2, none⟩)), is (.agg #[.int .i64 l2, .int .i64 (h2')]), iB (fitsR (panR b k cal) l2 h2'), iB (fitsR (panR b k cal) l2 h2')])
     ⟨fun f s W h i j l m a => opv rfl rfl (by simp [go_sem, a.e 4 k7_4, cb b7_0 h 0, cb b7_0 h 1, cb b7_0 h 2, cb b7_0 h 3, cb b7_0 h 4, cb b7_0 h 5, cb b7_0 h 6]) rfl,
  fun f s W h i j l m a => opm (a.v 2 k7_2),
  fun f s W h i j l m a => opm (a.v 3 k7_3),
  fun f s W h i j l m a => by have n := bwt fB7 h; exact opc (args := #[.agg #[.int .i64 b.tab, .slice a1 (b.panels.length) c1, .int .i64 b.height, .slice a2 (b.top.length) c2, .slice a3 (b.bottom.length) c3, .int .i64 b.slot, .bool b.isOpen], .int .i64 ((k : Int)), .int .i64 cal]) rfl rfl (by simp [go_sem, a.e 23 (i 0 rfl), a.e 24 (i 1 rfl), a.e 25 (i 2 rfl)]) (panR_any a1 a2 a3 c1 c2 c3 b k (k : Int) _ cal W (h1.below n (Nat.le_refl _)) (h2.below n (Nat.le_refl _)) (h3.below n (Nat.le_refl _)) rfl pk.1 rfl (by omega) (by omega) (by omega) (by omega)),
  fun f s W h i j l m a => opv rfl rfl (by simp [go_sem, a.e 5 k7_5]) rfl,
  fun f s W h i j l m a => opv rfl rfl (by simp [go_sem, a.e 27 (i 4 rfl), cb b7_1 h 2, cb b7_1 h 3]) rfl,
  fun f s W h i j l m a => opc rfl rfl (by simp [go_sem, a.e 26 (i 3 rfl), a.e 28 (i 5 rfl)]) (fitsR_any (panR b k cal) l2 h2' W (by omega) (by omega) (by omega) (by omega)),
  fun f s W h i j l m a => opm (a.v 29 (i 6 rfl)), trivial⟩ ?_
    intro f8 s8 W8 hB8 g8 hg8 z8
    have fB8 := hB8.f fB7
    have k8_8 := kt hg8 8 (hB8.is 7)
    refine wp_ret ?_
    refine inBlock_ret (then_ret ?_)
    refine leave_one (N := 95) (.inr rfl) Tryz.results65 rfl k8_8 ?_
    subst hk_
    exact ⟨rfl, fB8⟩
   ·
    have hc13' := hc13; try simp only [ba] at hc13'
    have hn1 : k ≠ 1 := by have h' := beq_eq_false_iff_ne.1 hc13; omega
    refine ry 2 [(22, 0), (20, 1)] [[], [0]] (rel [iB ((k : Int) == 3), iB ((k : Int) == 3)])
     ⟨fun f s W h i j l m a => opv rfl rfl (by simp [go_sem, a.e 9 k7_9]) rfl,
  fun f s W h i j l m a => opm (a.v 22 (i 0 rfl)), trivial⟩ ?_
    intro f9 s9 W9 hB9 g9 hg9 z9
    have fB9 := hB9.f fB7
    have b9_0 := hB9.b b7_0
    have b9_1 := hB9.b b7_1
    refine hK11 _ _ ?_
    have k9_2 := kt hg9 2 k7_2
    have k9_3 := kt hg9 3 k7_3
    have k9_4 := kt hg9 4 k7_4
    have k9_5 := kt hg9 5 k7_5
    have k9_9 := kt hg9 9 k7_9
    have k9_20 := kt hg9 20 (hB9.is 1)
    refine wp_cond_split (t := (k : Int) == 3) ((fr_eval rfl).trans k9_20) (fun hc16 => ?_) (fun hc16 => ?_)
    ·
     have hc16' := hc16; try simp only [ba] at hc16'
     have hk_ : k = 3 := by have h' := beq_iff_eq.1 hc16; omega
     have pk := panels_in hck (by omega : k < 4)
     refine rw_ 8 [(23, 0), (24, 1), (25, 2), (26, 3), (27, 4), (28, 5), (29, 6), (8, 7)] [[], [], [], [0, 1, 2], [], [4], [3, 5], [6]] (rel [is (.agg #[.int .i64 b.tab, .slice a1 (b.panels.length) c1, .int .i64 b.height, .slice a2 (b.top.length) c2, .slice a3 (b.bottom.length) c3, .int .i64 b.slot, .bool b.isOpen]), iI ((k : Int)), iI cal, iI ((panR b k cal)), is (.pointer (some ⟨(s1 1), 2, none⟩)), is (.agg #[.int .i64 l2, .int .i64 (h2')]), iB (fitsR (panR b k cal) l2 h2'), iB (fitsR (panR b k cal) l2 h2')])
      ⟨fun f s W h i j l m a => opv rfl rfl (by simp [go_sem, a.e 4 k9_4, cb b9_0 h 0, cb b9_0 h 1, cb b9_0 h 2, cb b9_0 h 3, cb b9_0 h 4, cb b9_0 h 5, cb b9_0 h 6]) rfl,
  fun f s W h i j l m a => opm (a.v 2 k9_2),
  fun f s W h i j l m a => opm (a.v 3 k9_3),
  fun f s W h i j l m a => by have n := bwt fB9 h; exact opc (args := #[.agg #[.int .i64 b.tab, .slice a1 (b.panels.length) c1, .int .i64 b.height, .slice a2 (b.top.length) c2, .slice a3 (b.bottom.length) c3, .int .i64 b.slot, .bool b.isOpen], .int .i64 ((k : Int)), .int .i64 cal]) rfl rfl (by simp [go_sem, a.e 23 (i 0 rfl), a.e 24 (i 1 rfl), a.e 25 (i 2 rfl)]) (panR_any a1 a2 a3 c1 c2 c3 b k (k : Int) _ cal W (h1.below n (Nat.le_refl _)) (h2.below n (Nat.le_refl _)) (h3.below n (Nat.le_refl _)) rfl pk.1 rfl (by omega) (by omega) (by omega) (by omega)),
  fun f s W h i j l m a => opv rfl rfl (by simp [go_sem, a.e 5 k9_5]) rfl,
  fun f s W h i j l m a => opv rfl rfl (by simp [go_sem, a.e 27 (i 4 rfl), cb b9_1 h 2, cb b9_1 h 3]) rfl,
  fun f s W h i j l m a => opc rfl rfl (by simp [go_sem, a.e 26 (i 3 rfl), a.e 28 (i 5 rfl)]) (fitsR_any (panR b k cal) l2 h2' W (by omega) (by omega) (by omega) (by omega)),
  fun f s W h i j l m a => opm (a.v 29 (i 6 rfl)), trivial⟩ ?_
     intro f10 s10 W10 hB10 g10 hg10 z10
     have fB10 := hB10.f fB9
     have k10_8 := kt hg10 8 (hB10.is 7)
     refine wp_ret ?_
     refine inBlock_ret (then_ret ?_)
     refine leave_one (N := 95) (.inr rfl) Tryz.results65 rfl k10_8 ?_
     subst hk_
     exact ⟨rfl, fB10⟩
    ·
     have hc16' := hc16; try simp only [ba] at hc16'
     have hn3 : k ≠ 3 := by have h' := beq_eq_false_iff_ne.1 hc16; omega
     refine rw_ 2 [(31, 0), (30, 1)] [[], [0]] (rel [iB ((k : Int) == 4), iB ((k : Int) == 4)])
      ⟨fun f s W h i j l m a => opv rfl rfl (by simp [go_sem, a.e 9 k9_9]) rfl,
  fun f s W h i j l m a => opm (a.v 31 (i 0 rfl)), trivial⟩ ?_
     intro f11 s11 W11 hB11 g11 hg11 z11
     have fB11 := hB11.f fB9
     have b11_0 := hB11.b b9_0
     have b11_1 := hB11.b b9_1
     have k11_3 := kt hg11 3 k9_3
     have k11_4 := kt hg11 4 k9_4
     have k11_5 := kt hg11 5 k9_5
     have k11_9 := kt hg11 9 k9_9
     have k11_30 := kt hg11 30 (hB11.is 1)
     refine wp_cond_split (t := (k : Int) == 4) ((fr_eval rfl).trans k11_30) (fun hc19 => ?_) (fun hc19 => ?_)
     ·
      have hc19' := hc19; try simp only [ba] at hc19'
      have hk_ : k = 4 := by have h' := beq_iff_eq.1 hc19; omega
      refine rw_ 7 [(32, 0), (33, 1), (34, 2), (35, 3), (36, 4), (37, 5), (8, 6)] [[], [], [0, 1], [], [3], [2, 4], [5]] (rel [is (.agg #[.int .i64 b.tab, .slice a1 (b.panels.length) c1, .int .i64 b.height, .slice a2 (b.top.length) c2, .slice a3 (b.bottom.length) c3, .int .i64 b.slot, .bool b.isOpen]), iI cal, iI ((heightR b cal)), is (.pointer (some ⟨(s1 1), 4, none⟩)), is (.agg #[.int .i64 l3, .int .i64 (h3')]), iB (fitsR (heightR b cal) l3 h3'), iB (fitsR (heightR b cal) l3 h3')])
       ⟨fun f s W h i j l m a => opv rfl rfl (by simp [go_sem, a.e 4 k11_4, cb b11_0 h 0, cb b11_0 h 1, cb b11_0 h 2, cb b11_0 h 3, cb b11_0 h 4, cb b11_0 h 5, cb b11_0 h 6]) rfl,
  fun f s W h i j l m a => opm (a.v 3 k11_3),
  fun f s W h i j l m a => by have n := bwt fB11 h; exact opc rfl rfl (by simp [go_sem, a.e 32 (i 0 rfl), a.e 33 (i 1 rfl)]) (heightR_any a1 a2 a3 c1 c2 c3 b cal W (h1.below n (Nat.le_refl _)) (h2.below n (Nat.le_refl _)) (h3.below n (Nat.le_refl _)) (by omega) (by omega) (by omega) (by omega)),
  fun f s W h i j l m a => opv rfl rfl (by simp [go_sem, a.e 5 k11_5]) rfl,
  fun f s W h i j l m a => opv rfl rfl (by simp [go_sem, a.e 35 (i 3 rfl), cb b11_1 h 4, cb b11_1 h 5]) rfl,
  fun f s W h i j l m a => opc rfl rfl (by simp [go_sem, a.e 34 (i 2 rfl), a.e 36 (i 4 rfl)]) (fitsR_any (heightR b cal) l3 h3' W (by omega) (by omega) (by omega) (by omega)),
  fun f s W h i j l m a => opm (a.v 37 (i 5 rfl)), trivial⟩ ?_
      intro f12 s12 W12 hB12 g12 hg12 z12
      have fB12 := hB12.f fB11
      have k12_8 := kt hg12 8 (hB12.is 6)
      refine wp_ret ?_
      refine inBlock_ret (then_ret ?_)
      refine leave_one (N := 95) (.inr rfl) Tryz.results65 rfl k12_8 ?_
      subst hk_
      exact ⟨rfl, fB12⟩
     ·
      have hc19' := hc19; try simp only [ba] at hc19'
      have hn4 : k ≠ 4 := by have h' := beq_eq_false_iff_ne.1 hc19; omega
      refine rw_ 2 [(39, 0), (38, 1)] [[], [0]] (rel [iB ((k : Int) == 5), iB ((k : Int) == 5)])
       ⟨fun f s W h i j l m a => opv rfl rfl (by simp [go_sem, a.e 9 k11_9]) rfl,
  fun f s W h i j l m a => opm (a.v 39 (i 0 rfl)), trivial⟩ ?_
      intro f13 s13 W13 hB13 g13 hg13 z13
      have fB13 := hB13.f fB11
      have b13_0 := hB13.b b11_0
      have b13_1 := hB13.b b11_1
      have k13_3 := kt hg13 3 k11_3
      have k13_4 := kt hg13 4 k11_4
      have k13_5 := kt hg13 5 k11_5
      have k13_9 := kt hg13 9 k11_9
      have k13_38 := kt hg13 38 (hB13.is 1)
      refine wp_cond_split (t := (k : Int) == 5) ((fr_eval rfl).trans k13_38) (fun hc22 => ?_) (fun hc22 => ?_)
      ·
       have hc22' := hc22; try simp only [ba] at hc22'
       have hk_ : k = 5 := by have h' := beq_iff_eq.1 hc22; omega
       refine wp_seq_k fun K23 hK23 => ?_
       refine rw_ 6 [(40, 0), (41, 1), (42, 2), (43, 3), (44, 4), (45, 5)] [[], [0], [1], [2], [2, 3], [2, 4]] (rel [is (.pointer (some ⟨(s1 0), 6, none⟩)), iB b.isOpen, iB b.isOpen, gd (b.isOpen) false (is (.pointer (some ⟨(s1 1), 10, none⟩))), gd (b.isOpen) false (iB wo), iB ((b.isOpen) || wo)])
        ⟨fun f s W h i j l m a => opv rfl rfl (by simp [go_sem, a.e 4 k13_4]) rfl,
  fun f s W h i j l m a => opv rfl rfl (by simp [go_sem, a.e 40 (i 0 rfl), cb b13_0 h 6]) rfl,
  fun f s W h i j l m a => opm (a.v 41 (i 1 rfl)),
  fun f s W h i j l m a => gdo rfl rfl (a.says (d := 42) rfl rfl (i 2 rfl)) fun hgd0 => gv (by simp [go_sem, a.e 5 k13_5]) rfl,
  fun f s W h i j l m a => gdo rfl rfl (a.says (d := 42) rfl rfl (i 2 rfl)) fun hgd0 => gv (by simp [go_sem, a.e 43 ((i 3 rfl).1 hgd0), cb b13_1 h 10]) rfl,
  fun f s W h i j l m a => opk (c := b.isOpen) rfl rfl (fun hpk => by simp [go_sem, hpk, a.e 42 (i 2 rfl), a.e 44 ((i 4 rfl).1 hpk)]) (fun hpk => by simp [go_sem, hpk, a.e 42 (i 2 rfl)]), trivial⟩ ?_
       intro f14 s14 W14 hB14 g14 hg14 z14
       have fB14 := hB14.f fB13
       have b14_0 := hB14.b b13_0
       have b14_1 := hB14.b b13_1
       have k14_3 := kt hg14 3 k13_3
       have k14_4 := kt hg14 4 k13_4
       have k14_5 := kt hg14 5 k13_5
       have k14_45 := kt hg14 45 (hB14.is 5)
       refine wp_cond_split (t := (b.isOpen) || wo) ((fr_eval rfl).trans k14_45) (fun hc25 => ?_) (fun hc25 => ?_)
       ·
        have hc25' := hc25; try simp only [ba] at hc25'
        refine rw_ 7 [(46, 0), (47, 1), (48, 2), (49, 3), (50, 4), (51, 5), (8, 6)] [[], [0], [1], [2], [2, 3], [2, 4], [5]] (rel [is (.pointer (some ⟨(s1 0), 6, none⟩)), iB b.isOpen, iB b.isOpen, gd (b.isOpen) true (is (.pointer (some ⟨(s1 1), 10, none⟩))), gd (b.isOpen) true (iB wo), iB ((b.isOpen) && wo), iB ((b.isOpen) && wo)])
         ⟨fun f s W h i j l m a => opv rfl rfl (by simp [go_sem, a.e 4 k14_4]) rfl,
  fun f s W h i j l m a => opv rfl rfl (by simp [go_sem, a.e 46 (i 0 rfl), cb b14_0 h 6]) rfl,
  fun f s W h i j l m a => opm (a.v 47 (i 1 rfl)),
  fun f s W h i j l m a => gdo rfl rfl (a.says (d := 48) rfl rfl (i 2 rfl)) fun hgd0 => gv (by simp [go_sem, a.e 5 k14_5]) rfl,
  fun f s W h i j l m a => gdo rfl rfl (a.says (d := 48) rfl rfl (i 2 rfl)) fun hgd0 => gv (by simp [go_sem, a.e 49 ((i 3 rfl).1 hgd0), cb b14_1 h 10]) rfl,
  fun f s W h i j l m a => opk (c := b.isOpen) rfl rfl (fun hpk => by simp [go_sem, hpk, a.e 48 (i 2 rfl)]) (fun hpk => by simp [go_sem, hpk, a.e 48 (i 2 rfl), a.e 50 ((i 4 rfl).1 hpk)]),
  fun f s W h i j l m a => opm (a.v 51 (i 5 rfl)), trivial⟩ ?_
        intro f15 s15 W15 hB15 g15 hg15 z15
        have fB15 := hB15.f fB14
        have k15_8 := kt hg15 8 (hB15.is 6)
        refine wp_ret ?_
        refine then_ret (inBlock_ret (then_ret ?_))
        refine leave_one (N := 95) (.inr rfl) Tryz.results65 rfl k15_8 ?_
        subst hk_
        exact ⟨by rw [show holdsR b ⟨(l1, h1'), (l2, h2'), (l3, h3'), (l4, h4'), (l5, h5'), wo⟩ 5 cal = if (b.isOpen || wo) = true then (b.isOpen && wo) else fitsR (gapR b true true cal) l4 h4' from rfl, if_pos hc25], fB15⟩
       ·
        have hc25' := hc25; try simp only [ba] at hc25'
        refine wp_skip ?_
        refine hK23 _ _ ?_
        refine rw_ 7 [(52, 0), (53, 1), (54, 2), (55, 3), (56, 4), (57, 5), (8, 6)] [[], [], [0, 1], [], [3], [2, 4], [5]] (rel [is (.agg #[.int .i64 b.tab, .slice a1 (b.panels.length) c1, .int .i64 b.height, .slice a2 (b.top.length) c2, .slice a3 (b.bottom.length) c3, .int .i64 b.slot, .bool b.isOpen]), iI cal, iI ((gapR b true true cal)), is (.pointer (some ⟨(s1 1), 6, none⟩)), is (.agg #[.int .i64 l4, .int .i64 (h4')]), iB (fitsR (gapR b true true cal) l4 h4'), iB (fitsR (gapR b true true cal) l4 h4')])
         ⟨fun f s W h i j l m a => opv rfl rfl (by simp [go_sem, a.e 4 k14_4, cb b14_0 h 0, cb b14_0 h 1, cb b14_0 h 2, cb b14_0 h 3, cb b14_0 h 4, cb b14_0 h 5, cb b14_0 h 6]) rfl,
  fun f s W h i j l m a => opm (a.v 3 k14_3),
  fun f s W h i j l m a => by have n := bwt fB14 h; exact opc rfl rfl (by simp [go_sem, a.e 52 (i 0 rfl), a.e 53 (i 1 rfl)]) (gapR_any a1 a2 a3 c1 c2 c3 b true true cal W (h1.below n (Nat.le_refl _)) (h2.below n (Nat.le_refl _)) (h3.below n (Nat.le_refl _)) hck gcl),
  fun f s W h i j l m a => opv rfl rfl (by simp [go_sem, a.e 5 k14_5]) rfl,
  fun f s W h i j l m a => opv rfl rfl (by simp [go_sem, a.e 55 (i 3 rfl), cb b14_1 h 6, cb b14_1 h 7]) rfl,
  fun f s W h i j l m a => opc rfl rfl (by simp [go_sem, a.e 54 (i 2 rfl), a.e 56 (i 4 rfl)]) (fitsR_any (gapR b true true cal) l4 h4' W (by omega) (by omega) (by omega) (by omega)),
  fun f s W h i j l m a => opm (a.v 57 (i 5 rfl)), trivial⟩ ?_
        intro f16 s16 W16 hB16 g16 hg16 z16
        have fB16 := hB16.f fB14
        have k16_8 := kt hg16 8 (hB16.is 6)
        refine wp_ret ?_
        refine inBlock_ret (then_ret ?_)
        refine leave_one (N := 95) (.inr rfl) Tryz.results65 rfl k16_8 ?_
        subst hk_
        exact ⟨by rw [show holdsR b ⟨(l1, h1'), (l2, h2'), (l3, h3'), (l4, h4'), (l5, h5'), wo⟩ 5 cal = if (b.isOpen || wo) = true then (b.isOpen && wo) else fitsR (gapR b true true cal) l4 h4' from rfl, if_neg (by rw [hc25]; exact Bool.false_ne_true)], fB16⟩
      ·
       have hc22' := hc22; try simp only [ba] at hc22'
       have hn5 : k ≠ 5 := by have h' := beq_eq_false_iff_ne.1 hc22; omega
       refine rw_ 2 [(59, 0), (58, 1)] [[], [0]] (rel [iB ((k : Int) == 6), iB ((k : Int) == 6)])
        ⟨fun f s W h i j l m a => opv rfl rfl (by simp [go_sem, a.e 9 k13_9]) rfl,
  fun f s W h i j l m a => opm (a.v 59 (i 0 rfl)), trivial⟩ ?_
       intro f17 s17 W17 hB17 g17 hg17 z17
       have fB17 := hB17.f fB13
       have b17_0 := hB17.b b13_0
       have b17_1 := hB17.b b13_1
       have k17_3 := kt hg17 3 k13_3
       have k17_4 := kt hg17 4 k13_4
       have k17_5 := kt hg17 5 k13_5
       have k17_9 := kt hg17 9 k13_9
       have k17_58 := kt hg17 58 (hB17.is 1)
       refine wp_cond_split (t := (k : Int) == 6) ((fr_eval rfl).trans k17_58) (fun hc29 => ?_) (fun hc29 => ?_)
       ·
        have hc29' := hc29; try simp only [ba] at hc29'
        have hk_ : k = 6 := by have h' := beq_iff_eq.1 hc29; omega
        refine rw_ 15 [(60, 0), (61, 1), (62, 2), (63, 3), (64, 4), (65, 5), (66, 6), (67, 7), (68, 8), (69, 9), (70, 10), (71, 11), (72, 12), (73, 13), (8, 14)] [[], [0], [1], [2], [2, 3], [2, 4], [5], [6], [6], [6, 7, 8], [6], [6, 10], [6, 9, 11], [6, 12], [13]] (rel [is (.pointer (some ⟨(s1 0), 6, none⟩)), iB b.isOpen, iB b.isOpen, gd (b.isOpen) false (is (.pointer (some ⟨(s1 1), 10, none⟩))), gd (b.isOpen) false (iB wo), iB ((b.isOpen) || wo), iB ((b.isOpen) || wo), gd ((b.isOpen) || wo) false (is (.agg #[.int .i64 b.tab, .slice a1 (b.panels.length) c1, .int .i64 b.height, .slice a2 (b.top.length) c2, .slice a3 (b.bottom.length) c3, .int .i64 b.slot, .bool b.isOpen])), gd ((b.isOpen) || wo) false (iI cal), gd ((b.isOpen) || wo) false (iI ((gapR b true false cal))), gd ((b.isOpen) || wo) false (is (.pointer (some ⟨(s1 1), 8, none⟩))), gd ((b.isOpen) || wo) false (is (.agg #[.int .i64 l5, .int .i64 (h5')])), gd ((b.isOpen) || wo) false (iB (fitsR (gapR b true false cal) l5 h5')), iB (((b.isOpen) || wo) || (fitsR (gapR b true false cal) l5 h5')), iB (((b.isOpen) || wo) || (fitsR (gapR b true false cal) l5 h5'))])
         ⟨fun f s W h i j l m a => opv rfl rfl (by simp [go_sem, a.e 4 k17_4]) rfl,
  fun f s W h i j l m a => opv rfl rfl (by simp [go_sem, a.e 60 (i 0 rfl), cb b17_0 h 6]) rfl,
  fun f s W h i j l m a => opm (a.v 61 (i 1 rfl)),
  fun f s W h i j l m a => gdo rfl rfl (a.says (d := 62) rfl rfl (i 2 rfl)) fun hgd0 => gv (by simp [go_sem, a.e 5 k17_5]) rfl,
  fun f s W h i j l m a => gdo rfl rfl (a.says (d := 62) rfl rfl (i 2 rfl)) fun hgd0 => gv (by simp [go_sem, a.e 63 ((i 3 rfl).1 hgd0), cb b17_1 h 10]) rfl,
  fun f s W h i j l m a => opk (c := b.isOpen) rfl rfl (fun hpk => by simp [go_sem, hpk, a.e 62 (i 2 rfl), a.e 64 ((i 4 rfl).1 hpk)]) (fun hpk => by simp [go_sem, hpk, a.e 62 (i 2 rfl)]),
  fun f s W h i j l m a => opm (a.v 65 (i 5 rfl)),
  fun f s W h i j l m a => gdo rfl rfl (a.says (d := 66) rfl rfl (i 6 rfl)) fun hgd0 => gv (by simp [go_sem, a.e 4 k17_4, cb b17_0 h 0, cb b17_0 h 1, cb b17_0 h 2, cb b17_0 h 3, cb b17_0 h 4, cb b17_0 h 5, cb b17_0 h 6]) rfl,
  fun f s W h i j l m a => gdo rfl rfl (a.says (d := 66) rfl rfl (i 6 rfl)) fun hgd0 => gv (by simp [go_sem, a.e 3 k17_3]) rfl,
  fun f s W h i j l m a => gdo rfl rfl (a.says (d := 66) rfl rfl (i 6 rfl)) fun hgd0 => by have n := bwt fB17 h; exact gc (by simp [go_sem, a.e 67 ((i 7 rfl).1 hgd0), a.e 68 ((i 8 rfl).1 hgd0)]) (gapR_any a1 a2 a3 c1 c2 c3 b true false cal W (h1.below n (Nat.le_refl _)) (h2.below n (Nat.le_refl _)) (h3.below n (Nat.le_refl _)) hck gcl),
  fun f s W h i j l m a => gdo rfl rfl (a.says (d := 66) rfl rfl (i 6 rfl)) fun hgd0 => gv (by simp [go_sem, a.e 5 k17_5]) rfl,
  fun f s W h i j l m a => gdo rfl rfl (a.says (d := 66) rfl rfl (i 6 rfl)) fun hgd0 => gv (by simp [go_sem, a.e 70 ((i 10 rfl).1 hgd0), cb b17_1 h 8, cb b17_1 h 9]) rfl,
  fun f s W h i j l m a => gdo rfl rfl (a.says (d := 66) rfl rfl (i 6 rfl)) fun hgd0 => gc (by simp [go_sem, a.e 69 ((i 9 rfl).1 hgd0), a.e 71 ((i 11 rfl).1 hgd0)]) (fitsR_any (gapR b true false cal) l5 h5' W (by omega) (by omega) (by omega) (by omega)),
  fun f s W h i j l m a => opk (c := (b.isOpen) || wo) rfl rfl (fun hpk => by simp [go_sem, hpk, a.e 66 (i 6 rfl), a.e 72 ((i 12 rfl).1 hpk)]) (fun hpk => by simp [go_sem, hpk, a.e 66 (i 6 rfl)]),
  fun f s W h i j l m a => opm (a.v 73 (i 13 rfl)), trivial⟩ ?_
        intro f18 s18 W18 hB18 g18 hg18 z18
        have fB18 := hB18.f fB17
        have k18_8 := kt hg18 8 (hB18.is 14)
        refine wp_ret ?_
        refine inBlock_ret (then_ret ?_)
        refine leave_one (N := 95) (.inr rfl) Tryz.results65 rfl k18_8 ?_
        subst hk_
        exact ⟨rfl, fB18⟩
       ·
        have hc29' := hc29; try simp only [ba] at hc29'
        have hn6 : k ≠ 6 := by have h' := beq_eq_false_iff_ne.1 hc29; omega
        refine rw_ 2 [(75, 0), (74, 1)] [[], [0]] (rel [iB ((k : Int) == 7), iB ((k : Int) == 7)])
         ⟨fun f s W h i j l m a => opv rfl rfl (by simp [go_sem, a.e 9 k17_9]) rfl,
  fun f s W h i j l m a => opm (a.v 75 (i 0 rfl)), trivial⟩ ?_
        intro f19 s19 W19 hB19 g19 hg19 z19
        have fB19 := hB19.f fB17
        have b19_0 := hB19.b b17_0
        have b19_1 := hB19.b b17_1
        have k19_3 := kt hg19 3 k17_3
        have k19_4 := kt hg19 4 k17_4
        have k19_5 := kt hg19 5 k17_5
        have k19_9 := kt hg19 9 k17_9
        have k19_74 := kt hg19 74 (hB19.is 1)
        refine wp_cond_split (t := (k : Int) == 7) ((fr_eval rfl).trans k19_74) (fun hc32 => ?_) (fun hc32 => ?_)
        ·
         have hc32' := hc32; try simp only [ba] at hc32'
         have hk_ : k = 7 := by have h' := beq_iff_eq.1 hc32; omega
         refine rw_ 7 [(76, 0), (77, 1), (78, 2), (79, 3), (80, 4), (81, 5), (8, 6)] [[], [], [0, 1], [], [3], [2, 4], [5]] (rel [is (.agg #[.int .i64 b.tab, .slice a1 (b.panels.length) c1, .int .i64 b.height, .slice a2 (b.top.length) c2, .slice a3 (b.bottom.length) c3, .int .i64 b.slot, .bool b.isOpen]), iI cal, iI ((gapR b false true cal)), is (.pointer (some ⟨(s1 1), 6, none⟩)), is (.agg #[.int .i64 l4, .int .i64 (h4')]), iB (fitsR (gapR b false true cal) l4 h4'), iB (fitsR (gapR b false true cal) l4 h4')])
          ⟨fun f s W h i j l m a => opv rfl rfl (by simp [go_sem, a.e 4 k19_4, cb b19_0 h 0, cb b19_0 h 1, cb b19_0 h 2, cb b19_0 h 3, cb b19_0 h 4, cb b19_0 h 5, cb b19_0 h 6]) rfl,
  fun f s W h i j l m a => opm (a.v 3 k19_3),
  fun f s W h i j l m a => by have n := bwt fB19 h; exact opc rfl rfl (by simp [go_sem, a.e 76 (i 0 rfl), a.e 77 (i 1 rfl)]) (gapR_any a1 a2 a3 c1 c2 c3 b false true cal W (h1.below n (Nat.le_refl _)) (h2.below n (Nat.le_refl _)) (h3.below n (Nat.le_refl _)) hck gcl),
  fun f s W h i j l m a => opv rfl rfl (by simp [go_sem, a.e 5 k19_5]) rfl,
  fun f s W h i j l m a => opv rfl rfl (by simp [go_sem, a.e 79 (i 3 rfl), cb b19_1 h 6, cb b19_1 h 7]) rfl,
  fun f s W h i j l m a => opc rfl rfl (by simp [go_sem, a.e 78 (i 2 rfl), a.e 80 (i 4 rfl)]) (fitsR_any (gapR b false true cal) l4 h4' W (by omega) (by omega) (by omega) (by omega)),
  fun f s W h i j l m a => opm (a.v 81 (i 5 rfl)), trivial⟩ ?_
         intro f20 s20 W20 hB20 g20 hg20 z20
         have fB20 := hB20.f fB19
         have k20_8 := kt hg20 8 (hB20.is 6)
         refine wp_ret ?_
         refine inBlock_ret (then_ret ?_)
         refine leave_one (N := 95) (.inr rfl) Tryz.results65 rfl k20_8 ?_
         subst hk_
         exact ⟨rfl, fB20⟩
        ·
         have hc32' := hc32; try simp only [ba] at hc32'
         have hn7 : k ≠ 7 := by have h' := beq_eq_false_iff_ne.1 hc32; omega
         refine rw_ 2 [(83, 0), (82, 1)] [[], [0]] (rel [iB ((k : Int) == 8), iB ((k : Int) == 8)])
          ⟨fun f s W h i j l m a => opv rfl rfl (by simp [go_sem, a.e 9 k19_9]) rfl,
  fun f s W h i j l m a => opm (a.v 83 (i 0 rfl)), trivial⟩ ?_
         intro f21 s21 W21 hB21 g21 hg21 z21
         have fB21 := hB21.f fB19
         have b21_0 := hB21.b b19_0
         have b21_1 := hB21.b b19_1
         have k21_3 := kt hg21 3 k19_3
         have k21_4 := kt hg21 4 k19_4
         have k21_5 := kt hg21 5 k19_5
         have k21_82 := kt hg21 82 (hB21.is 1)
         refine wp_cond_split (t := (k : Int) == 8) ((fr_eval rfl).trans k21_82) (fun hc35 => ?_) (fun hc35 => ?_)
         ·
          have hc35' := hc35; try simp only [ba] at hc35'
          have hk_ : k = 8 := by have h' := beq_iff_eq.1 hc35; omega
          refine rw_ 7 [(84, 0), (85, 1), (86, 2), (87, 3), (88, 4), (89, 5), (8, 6)] [[], [], [0, 1], [], [3], [2, 4], [5]] (rel [is (.agg #[.int .i64 b.tab, .slice a1 (b.panels.length) c1, .int .i64 b.height, .slice a2 (b.top.length) c2, .slice a3 (b.bottom.length) c3, .int .i64 b.slot, .bool b.isOpen]), iI cal, iI ((gapR b false false cal)), is (.pointer (some ⟨(s1 1), 8, none⟩)), is (.agg #[.int .i64 l5, .int .i64 (h5')]), iB (fitsR (gapR b false false cal) l5 h5'), iB (fitsR (gapR b false false cal) l5 h5')])
           ⟨fun f s W h i j l m a => opv rfl rfl (by simp [go_sem, a.e 4 k21_4, cb b21_0 h 0, cb b21_0 h 1, cb b21_0 h 2, cb b21_0 h 3, cb b21_0 h 4, cb b21_0 h 5, cb b21_0 h 6]) rfl,
  fun f s W h i j l m a => opm (a.v 3 k21_3),
  fun f s W h i j l m a => by have n := bwt fB21 h; exact opc rfl rfl (by simp [go_sem, a.e 84 (i 0 rfl), a.e 85 (i 1 rfl)]) (gapR_any a1 a2 a3 c1 c2 c3 b false false cal W (h1.below n (Nat.le_refl _)) (h2.below n (Nat.le_refl _)) (h3.below n (Nat.le_refl _)) hck gcl),
  fun f s W h i j l m a => opv rfl rfl (by simp [go_sem, a.e 5 k21_5]) rfl,
  fun f s W h i j l m a => opv rfl rfl (by simp [go_sem, a.e 87 (i 3 rfl), cb b21_1 h 8, cb b21_1 h 9]) rfl,
  fun f s W h i j l m a => opc rfl rfl (by simp [go_sem, a.e 86 (i 2 rfl), a.e 88 (i 4 rfl)]) (fitsR_any (gapR b false false cal) l5 h5' W (by omega) (by omega) (by omega) (by omega)),
  fun f s W h i j l m a => opm (a.v 89 (i 5 rfl)), trivial⟩ ?_
          intro f22 s22 W22 hB22 g22 hg22 z22
          have fB22 := hB22.f fB21
          have k22_8 := kt hg22 8 (hB22.is 6)
          refine wp_ret ?_
          refine inBlock_ret (then_ret ?_)
          refine leave_one (N := 95) (.inr rfl) Tryz.results65 rfl k22_8 ?_
          subst hk_
          exact ⟨rfl, fB22⟩
         ·
          have hc35' := hc35; try simp only [ba] at hc35'
          have hn8 : k ≠ 8 := by have h' := beq_eq_false_iff_ne.1 hc35; omega
          refine wp_skip ?_
          refine ibn ?_
          refine hK2 _ _ ?_
          refine rw_ 6 [(90, 0), (91, 1), (92, 2), (93, 3), (94, 4), (8, 5)] [[], [0], [1], [], [2, 3], [4]] (rel [is (.pointer (some ⟨(s1 0), 5, none⟩)), iI b.slot, iI (1000 * b.slot), iI cal, iB (decide (cal ≤ (1000 * b.slot))), iB (decide (cal ≤ (1000 * b.slot)))])
           ⟨fun f s W h i j l m a => opv rfl rfl (by simp [go_sem, a.e 4 k21_4]) rfl,
  fun f s W h i j l m a => opv rfl rfl (by simp [go_sem, a.e 90 (i 0 rfl), cb b21_0 h 5]) rfl,
  fun f s W h i j l m a => opv rfl rfl (by simp [go_sem, a.e 91 (i 1 rfl), IntWalk.i64_in (1000 * b.slot) (by omega)]) rfl,
  fun f s W h i j l m a => opm (a.v 3 k21_3),
  fun f s W h i j l m a => opv rfl rfl (by simp [go_sem, a.e 92 (i 2 rfl), a.e 93 (i 3 rfl)]) rfl,
  fun f s W h i j l m a => opm (a.v 94 (i 4 rfl)), trivial⟩ ?_
          intro f23 s23 W23 hB23 g23 hg23 z23
          have fB23 := hB23.f fB21
          have k23_8 := kt hg23 8 (hB23.is 5)
          refine wp_ret ?_
          refine leave_one (N := 95) (.inr rfl) Tryz.results65 rfl k23_8 ?_
          obtain rfl : k = 9 := by omega
          exact ⟨rfl, fB23⟩
end Go.Proofs.YthnediamopehfaaGreat
