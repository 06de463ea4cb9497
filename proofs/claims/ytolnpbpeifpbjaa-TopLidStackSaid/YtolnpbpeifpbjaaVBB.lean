/- Part of the proof: what the claim leans on. -/
import Derived.Test.YtolnpbpeifpbjaaVAW
import Derived.Test.YtolnpbpeifpbjaaVAX
import Derived.Test.YtolnpbpeifpbjaaVBA
import Derived.Test.YtolnpbpeifpbjaaVAZ
import Derived.Test.YtolnpbpeifpbjaaVAM
set_option maxHeartbeats 40000000
set_option maxRecDepth 100000
set_option linter.unusedSimpArgs false
set_option linter.unusedVariables false
namespace Go.Proofs.Ytolnpbpeifpbjaa
open Go.RowKit
theorem nea {a b : Nat} (h : a ≠ b := by first | assumption | exact Ne.symm (by assumption) | omega) : a ≠ b := h
theorem stack_main (ap af ay : Option Addr) (np cp nf cf nb cb nP nF : Nat) (bv fb : Nat → Nat → Int) (bs : Nat → Int) (v0 v1 v2 v3 m1 m2 ka kb cq r5 mo P1 P2 : Int) (b1 b2 : Bl) (PL : List Sp) (sv pv av qv : Bool) (w : World) (hRp : RowsB w ap np 6 bv) (hRf : RowsB w af nf 3 fb) (hwb : WareB np nf bv fb) (hnP : nP = max 2 (min 5 np)) (hnF : nF = max 1 (min 3 nf)) (hByt : ByV w ay nb bs) (hmeas : MeasW nP nF bv fb nb bs m1 m2 ka kb) (j1 : 1 ≤ ka) (j2 : ka ≤ kb) (j3 : kb ≤ 10000) (gv0 : 0 ≤ v0 ∧ v0 ≤ 255) (gv1 : 0 ≤ v1 ∧ v1 ≤ 255) (gv2 : 0 ≤ v2 ∧ v2 ≤ 255) (gv3 : 0 ≤ v3 ∧ v3 ≤ 255) (hbk1 : (⟨0, [(150 + v0) + mo, (120 + v1) + mo, (150 + v0) + mo, (120 + v1) + mo], 60 + v2, [0, 0], [60, 60], 10, true⟩ : Bl) = b1) (hbk2 : (⟨0, [150 + v0, 120 + v1, 150 + v0, 120 + v1], 60 + v2, [0, 0], [60, 60], 10, true⟩ : Bl) = b2) (hck1 : checkErr b1 = 0) (hck2 : checkErr b2 = 0) (hcq : (kb + 999) / 1000 = cq) (hr5 : v3 % 5 = r5) (hmo : (2 * cq) + r5 = mo) (hPL : playL b1 b2 (ka, kb) (ka, kb) = PL) (hn4 : PL.length = 4) (hPL4 : ∀ i, i < 4 → nthP PL i = (P1, P2)) (hP1 : (1000 * mo) - (2 * kb) = P1) (hP2 : (1000 * mo) - (2 * ka) = P2) (gP1 : 0 ≤ P1) (hs1 : insideB b1 kb (100 + v0) (100 + v1) (50 + v2) = av) (hp1 : insideB b1 ka (100 + v0) (100 + v1) (50 + v2) = qv) (hs2 : insideB b2 kb (100 + v0) (100 + v1) (50 + v2) = sv) (hp2 : insideB b2 ka (100 + v0) (100 + v1) (50 + v2) = pv) (hfp : sv = true → pv = true) (hfa : sv = true → av = true) :
  Calls Try.prog 4 #[.agg #[.slice ap np cp, .slice af nf cf, .slice ay nb cb], .agg #[.int .u8 v0, .int .u8 v1, .int .u8 v2, .int .u8 v3]] w (fun e w' => e = .returned (.bool true) ∧ Below w.heap.size w w') := by
 have hd0 : (decide (ka < 1)) = false := decide_eq_false (by omega)
 have hd1 : (decide (10000 < kb)) = false := decide_eq_false (by omega)
 have hd2 : ((PL.length : Int) != 4) = false := by rw [hn4]; rfl
 have hd3 : (P1 != ((1000 * mo) - (2 * kb))) = false := bne_eq_false_iff_eq.2 hP1.symm
 have hd4 : (P2 != ((1000 * mo) - (2 * ka))) = false := bne_eq_false_iff_eq.2 hP2.symm
 have hd5 : (decide (P1 < 0)) = false := decide_eq_false (by omega)
 have gx0 : 0 ≤ 100 + v0 ∧ 100 + v0 ≤ 3000 := by omega
 have gx1 : 0 ≤ 100 + v1 ∧ 100 + v1 ≤ 3000 := by omega
 have gx2 : 0 ≤ 50 + v2 ∧ 50 + v2 ≤ 3000 := by omega
 have gr5 : 0 ≤ r5 ∧ r5 ≤ 4 := by omega
 have gcq : 0 ≤ cq ∧ cq ≤ 11 := by omega
 have gmo : 0 ≤ mo ∧ mo ≤ 30 := by omega
 refine calls_fr Try.func4 Try.ntmps4 rfl rfl fun g hg => ?_
 have k0 : g 0 = .agg #[.slice ap np cp, .slice af nf cf, .slice ay nb cb] := hg 0
 have k1 : g 1 = .agg #[.int .u8 v0, .int .u8 v1, .int .u8 v2, .int .u8 v3] := hg 1
 clear hg
 have fB0 : Below w.heap.size w w := Below.refl _ _
 refine wp_seq_k fun K1 hK1 => ?_
 as_aux_lemma =>
 refine ry 3 [(2, 0), (3, 1), (4, 2)] [[], [], []] (rel [bx 0 #[.slice ap np cp, .slice af nf cf, .slice ay nb cb] 60, bx 1 #[.int .u8 v0, .int .u8 v1, .int .u8 v2, .int .u8 v3] 22, iB false])
  ⟨fun f s W hW l m n p a => opb rfl rfl (by simp [go_sem, a.e 0 k0]),
  fun f s W hW l m n p a => opb rfl rfl (by simp [go_sem, a.e 1 k1]),
  fun f s W hW l m n p a => opz, trivial⟩ ?_
 intro f1 s1 W1 hB1 g1 hg1 z1
 have fB1 := hB1.f fB0
 obtain ⟨r1_0, br1_0⟩ := hB1.is 0
 have lr1_0 := hB1.lr 0 br1_0
 obtain ⟨r1_1, br1_1⟩ := hB1.is 1
 have lr1_1 := hB1.lr 1 br1_1
 have ne1_0_1 := hB1.nb 0 1
 refine hK1 _ _ ?_
 have k1_2 := kt hg1 2 r1_0
 refine wp_seq_k fun K2 hK2 => ?_
 as_aux_lemma =>
 refine region_doS (W1.heap.size) (fun t => [62].contains t) [(11, 9), (12, 10)] 13 [(24, 0), (25, 1), (26, 2), (27, 3), (28, 4), (23, 5), (29, 6), (30, 7), (31, 8), (5, 9), (6, 10), (7, 13)] [[], [0], [], [0, 1, 2], [0, 1, 2, 3], [0, 1, 2, 3, 4], [0, 1, 2, 3, 4, 5], [0, 1, 2, 3, 4, 5], [0, 1, 2, 3, 4, 5], [], [], [0, 1, 2, 3, 4, 5, 6, 9, 10], [0, 1, 2, 3, 4, 5, 6, 7, 9, 10, 11], [0, 1, 2, 3, 4, 5, 6, 7, 8, 9, 10, 11, 12]] (rel [is (.agg #[.slice ap np cp, .slice af nf cf, .slice ay nb cb]),
   ab fun v W => StoN 0 nP nF (paZ bv) (fuW fb) v W,
   is (.agg #[.slice ap np cp, .slice af nf cf, .slice ay nb cb]),
   ab fun v W => MkV nP nF (paZ bv) nb bs v W,
   is (.tuple #[.agg #[.int .i64 m1, .int .i64 m2], .agg #[.int .i64 ka, .int .i64 kb], .int .i64 0]),
   is (.tuple #[.agg #[.int .i64 m1, .int .i64 m2], .agg #[.int .i64 ka, .int .i64 kb], .int .i64 0]),
   is (.agg #[.int .i64 m1, .int .i64 m2]),
   is (.agg #[.int .i64 ka, .int .i64 kb]),
   is (.int .i64 0),
   boxK (W1.heap.size) 62 2 9,
   boxK (W1.heap.size) 62 2 10,
   stoS 62 9 #[.int .i64 m1, .int .i64 m2],
   stoS 62 10 #[.int .i64 ka, .int .i64 kb]]) (by kernel_rfl) (by kernel_rfl) (by kernel_rfl) (by kernel_rfl) (by decide) ⟨fun _ _ _ h => boxK_lt h, fun _ _ _ h => boxK_lt h, trivial⟩
  ⟨ks_l (is_kl), ks_l (abK_k fun v W W' hb h => h.leK hb), ks_l (is_kl), ks_l (abK_k fun v W W' hb h => h.leK hb), ks_l (is_kl), ks_l (is_kl), ks_l (is_kl), ks_l (is_kl), ks_l (is_kl), ks_l (boxK_k rfl), ks_l (boxK_k rfl), ks_s rfl (by decide), ks_s rfl (by decide), trivial⟩
  ⟨fun f s W hT l m n p a => by have hW := LeK.below hT (Nat.le_refl _); exact OpDo.s (opv rfl rfl (by simp [go_sem, a.e 2 k1_2, cl (bwb br1_0 hW) 0, cl (bwb br1_0 hW) 1, cl (bwb br1_0 hW) 2]) rfl),
  fun f s W hT l m n p a => by have hW := LeK.below hT (Nat.le_refl _); exact OpDo.s (by have q := bwt fB1 hW; exact opd rfl rfl (by simp [go_sem, a.e 24 (l 0 rfl)]) (armStore_any ap af ay np cp nf cf nb cb nP nF bv fb W (hRp.below q) (hRf.below q) hwb hnP hnF) ((fun e W' h => by obtain ⟨v, e1, h1, h2⟩ := h; exact ⟨_, e1, h2, h1.low (Nat.zero_le _)⟩))),
  fun f s W hT l m n p a => by have hW := LeK.below hT (Nat.le_refl _); exact OpDo.s (opv rfl rfl (by simp [go_sem, a.e 2 k1_2, cl (bwb br1_0 hW) 0, cl (bwb br1_0 hW) 1, cl (bwb br1_0 hW) 2]) rfl),
  fun f s W hT l m n p a => by have hW := LeK.below hT (Nat.le_refl _); exact OpDo.s (by have q := bwt fB1 hW; exact opd rfl rfl (by simp [go_sem, a.e 26 (l 2 rfl)]) (armMake_any ap af ay np cp nf cf nb cb nP nF bv fb bs W (hRp.below q) (hRf.below q) hwb hnP hnF (hByt.below q)) ((fun e W' h => by obtain ⟨v, e1, h1, h2⟩ := h; exact ⟨_, e1, h2, h1⟩))),
  fun f s W hT l m n p a => by have hW := LeK.below hT (Nat.le_refl _); exact OpDo.s (by obtain ⟨g1', c3', g2', c4', d1, q5', q6'⟩ := (l 1 rfl); obtain ⟨u7', d3, q8'⟩ := (l 3 rfl); exact opc (args := #[.agg #[.slice (some ⟨g1', 0, none⟩) nP c3', .slice (some ⟨g2', 0, none⟩) nF c4'], u7']) rfl rfl (by simp [go_sem, a.e 25 d1, a.e 27 d3]) (hmeas W (g1') c3' (g2') c4' _ (OwnN.row q5').paR (OwnN.row q6').fuR ⟨_, rfl, q8'⟩)),
  fun f s W hT l m n p a => by have hW := LeK.below hT (Nat.le_refl _); exact OpDo.s (opv rfl rfl (by simp [go_sem, a.e 28 (l 4 rfl)]) rfl),
  fun f s W hT l m n p a => by have hW := LeK.below hT (Nat.le_refl _); exact OpDo.s (opv rfl rfl (by simp [go_sem, a.e 23 (l 5 rfl)]) rfl),
  fun f s W hT l m n p a => by have hW := LeK.below hT (Nat.le_refl _); exact OpDo.s (opv rfl rfl (by simp [go_sem, a.e 23 (l 5 rfl)]) rfl),
  fun f s W hT l m n p a => by have hW := LeK.below hT (Nat.le_refl _); exact OpDo.s (opv rfl rfl (by simp [go_sem, a.e 23 (l 5 rfl)]) rfl),
  fun f s W hT l m n p a => opS (cs := #[.int .i64 0, .int .i64 0]) (hT.size) rfl rfl (by simp [go_sem]) rfl,
  fun f s W hT l m n p a => opS (cs := #[.int .i64 0, .int .i64 0]) (hT.size) rfl rfl (by simp [go_sem]) rfl,
  fun f s W hT l m n p a => stoS_do (#[.int .i64 m1, .int .i64 m2]) rfl rfl rfl (by decide) (l 9 rfl) (a.v 5 (l 9 rfl).1) (a.v 29 (l 6 rfl)) rfl rfl (by rfl) (by rfl),
  fun f s W hT l m n p a => stoS_do (#[.int .i64 ka, .int .i64 kb]) rfl rfl rfl (by decide) (l 10 rfl) (a.v 6 (l 10 rfl).1) (a.v 30 (l 7 rfl)) rfl rfl (by rfl) (by rfl), trivial⟩ ?_
 intro f2 s2 W2 hB2
 have hb2 := LeK.below hB2.le (Nat.le_refl _)
 have fB2 := bwt fB1 hb2
 have z2 : W1.heap.size ≤ W2.heap.size := hb2.size
 have b2_0 := bwb br1_0 hb2
 have b2_1 := bwb br1_1 hb2
 obtain ⟨r2_9, lb2_9, -⟩ := hB2.is 9
 have bs2_9 : W2.heap[s2 9]? = some (.cells #[.int .i64 m1, .int .i64 m2] 62 (0, 0)) := hB2.is 11
 have lr2_9 : W1.heap.size ≤ s2 9 ∧ s2 9 < W2.heap.size := ⟨lb2_9, ltb bs2_9⟩
 obtain ⟨r2_10, lb2_10, -⟩ := hB2.is 10
 have bs2_10 : W2.heap[s2 10]? = some (.cells #[.int .i64 ka, .int .i64 kb] 62 (0, 0)) := hB2.is 12
 have lr2_10 : W1.heap.size ≤ s2 10 ∧ s2 10 < W2.heap.size := ⟨lb2_10, ltb bs2_10⟩
 have nk2_9_10 : s2 9 ≠ s2 10 := hB2.two 9 10 (by decide) (by decide) (by decide) (Nat.le_refl _) (Nat.le_refl _) (fun _ h => boxK_lt h) (fun _ h => boxK_lt h)
 generalize hg2 : ov [(24, 0), (25, 1), (26, 2), (27, 3), (28, 4), (23, 5), (29, 6), (30, 7), (31, 8), (5, 9), (6, 10), (7, 13)] f2 g1 = g2
 have k2_31 := kt hg2 31 (hB2.is 8)
 refine tail_value (o := _) rfl rfl rfl (v := .int .i64 0) (by simp [go_sem, frv 207 k2_31]) ?_
 generalize hg3 : upd g2 7 (.int .i64 0) = g3
 have k3_6 := ku hg3 6 (kt hg2 6 r2_10)
 have k3_7 := kt hg3 7 (upd_same _ _ _)
 refine wpe ?_
 refine hK2 _ _ ?_
 refine wp_seq_k fun K3 hK3 => ?_
 refine wp_seq_k fun K4 hK4 => ?_
 as_aux_lemma =>
 refine ry 7 [(32, 0), (33, 1), (34, 2), (35, 3), (36, 4), (37, 5), (38, 6)] [[], [0], [1], [2], [2, 3], [2, 4], [2, 5]] (rel [iI 0, iB false, iB false, is (.pointer (some ⟨(s2 10), 0, none⟩)), iI ka, iB false, iB false])
  ⟨fun f s W hW l m n p a => opm (a.v 7 k3_7),
  fun f s W hW l m n p a => opv rfl rfl (by simp [go_sem, a.e 32 (l 0 rfl)]) rfl,
  fun f s W hW l m n p a => opm (a.v 33 (l 1 rfl)),
  fun f s W hW l m n p a => osure rfl rfl (a.says (d := 34) rfl rfl (l 2 rfl)) (gv (by simp [go_sem, a.e 6 k3_6]) rfl),
  fun f s W hW l m n p a => osure rfl rfl (a.says (d := 34) rfl rfl (l 2 rfl)) (gv (by simp [go_sem, a.e 35 (l 3 rfl), cl (bwb bs2_10 hW) 0]) rfl),
  fun f s W hW l m n p a => osure rfl rfl (a.says (d := 34) rfl rfl (l 2 rfl)) (gv (by simp [go_sem, a.e 36 (l 4 rfl), hd0]) rfl),
  fun f s W hW l m n p a => opk (c := false) rfl rfl (fun _ => by simp [go_sem, a.e 34 (l 2 rfl), a.e 37 (l 5 rfl)]) (fun h => absurd h (by decide)), trivial⟩ ?_
 intro f4 s4 W4 hB4 g4 hg4 z4
 have b4_3 := hB4.b bs2_10
 refine hK4 _ _ ?_
 have k4_6 := kt hg4 6 k3_6
 have k4_38 := kt hg4 38 (hB4.is 6)
 refine wp_cond_false ((fr_eval rfl).trans k4_38) ?_
 refine wp_skip ?_
 refine hK3 _ _ ?_
 refine wp_seq_k fun K6 hK6 => ?_
 refine wp_seq_k fun K7 hK7 => ?_
 as_aux_lemma =>
 refine ry 3 [(39, 0), (40, 1), (41, 2)] [[], [0], [1]] (rel [is (.pointer (some ⟨(s2 10), 1, none⟩)), iI kb, iB false])
  ⟨fun f s W hW l m n p a => opv rfl rfl (by simp [go_sem, a.e 6 k4_6]) rfl,
  fun f s W hW l m n p a => opv rfl rfl (by simp [go_sem, a.e 39 (l 0 rfl), cl (bwb b4_3 hW) 1]) rfl,
  fun f s W hW l m n p a => opv rfl rfl (by simp [go_sem, a.e 40 (l 1 rfl), hd1]) rfl, trivial⟩ ?_
 intro f5 s5 W5 hB5 g5 hg5 z5
 have b5_1 := hB5.b (hB4.b b2_1)
 refine hK7 _ _ ?_
 have k5_3 := kt hg5 3 (kt hg4 3 (ku hg3 3 (kt hg2 3 (kt hg1 3 r1_1))))
 have k5_41 := kt hg5 41 (hB5.is 2)
 refine wp_cond_false ((fr_eval rfl).trans k5_41) ?_
 refine wp_skip ?_
 refine hK6 _ _ ?_
 refine wp_seq_k fun K9 hK9 => ?_
 as_aux_lemma =>
 refine rz 18 [(46, 0), (47, 1), (48, 2), (49, 3), (50, 4), (51, 5), (52, 6), (53, 7), (54, 8), (55, 9), (56, 10), (57, 11), (58, 12), (59, 13), (60, 14), (61, 15), (62, 16), (8, 17)] [[], [0], [1], [2], [], [4], [5], [6], [], [8], [9], [10], [], [12], [13], [14], [3, 7, 11, 15], [0, 1, 2, 3, 4, 5, 6, 7, 8, 9, 10, 11, 12, 13, 14, 15, 16]] (rel [is (.pointer (some ⟨(s1 1), 0, none⟩)), is (.int .u8 v0), iI v0, iI (150 + v0), is (.pointer (some ⟨(s1 1), 1, none⟩)), is (.int .u8 v1), iI v1, iI (120 + v1), is (.pointer (some ⟨(s1 1), 0, none⟩)), is (.int .u8 v0), iI v0, iI (150 + v0), is (.pointer (some ⟨(s1 1), 1, none⟩)), is (.int .u8 v1), iI v1, iI (120 + v1), row 16 4 #[.int .i64 (150 + v0), .int .i64 (120 + v1), .int .i64 (150 + v0), .int .i64 (120 + v1)] 3, isS fun s => .slice (some ⟨(s 16), 0, none⟩) (4) (4)])
  ⟨is_k, is_k, is_k, is_k, is_k, is_k, is_k, is_k, is_k, is_k, is_k, is_k, is_k, is_k, is_k, is_k, row_k, isS_k fun s s' e => by rw [e 16 (by simp)], trivial⟩
  ⟨fun f s W hW l m n p a => opv rfl rfl (by simp [go_sem, a.e 3 k5_3]) rfl,
  fun f s W hW l m n p a => opv rfl rfl (by simp [go_sem, a.e 46 (l 0 rfl), cl (bwb b5_1 hW) 0]) rfl,
  fun f s W hW l m n p a => by have cv_ := IntWalk.i64_in (v0) (by omega); exact opv rfl rfl (by simp [go_sem, a.e 47 (l 1 rfl), cv_]) rfl,
  fun f s W hW l m n p a => opv rfl rfl (by simp [go_sem, a.e 48 (l 2 rfl), IntWalk.i64_in (150 + v0) (by omega)]) rfl,
  fun f s W hW l m n p a => opv rfl rfl (by simp [go_sem, a.e 3 k5_3]) rfl,
  fun f s W hW l m n p a => opv rfl rfl (by simp [go_sem, a.e 50 (l 4 rfl), cl (bwb b5_1 hW) 1]) rfl,
  fun f s W hW l m n p a => by have cv_ := IntWalk.i64_in (v1) (by omega); exact opv rfl rfl (by simp [go_sem, a.e 51 (l 5 rfl), cv_]) rfl,
  fun f s W hW l m n p a => opv rfl rfl (by simp [go_sem, a.e 52 (l 6 rfl), IntWalk.i64_in (120 + v1) (by omega)]) rfl,
  fun f s W hW l m n p a => opv rfl rfl (by simp [go_sem, a.e 3 k5_3]) rfl,
  fun f s W hW l m n p a => opv rfl rfl (by simp [go_sem, a.e 54 (l 8 rfl), cl (bwb b5_1 hW) 0]) rfl,
  fun f s W hW l m n p a => by have cv_ := IntWalk.i64_in (v0) (by omega); exact opv rfl rfl (by simp [go_sem, a.e 55 (l 9 rfl), cv_]) rfl,
  fun f s W hW l m n p a => opv rfl rfl (by simp [go_sem, a.e 56 (l 10 rfl), IntWalk.i64_in (150 + v0) (by omega)]) rfl,
  fun f s W hW l m n p a => opv rfl rfl (by simp [go_sem, a.e 3 k5_3]) rfl,
  fun f s W hW l m n p a => opv rfl rfl (by simp [go_sem, a.e 58 (l 12 rfl), cl (bwb b5_1 hW) 1]) rfl,
  fun f s W hW l m n p a => by have cv_ := IntWalk.i64_in (v1) (by omega); exact opv rfl rfl (by simp [go_sem, a.e 59 (l 13 rfl), cv_]) rfl,
  fun f s W hW l m n p a => opv rfl rfl (by simp [go_sem, a.e 60 (l 14 rfl), IntWalk.i64_in (120 + v1) (by omega)]) rfl,
  fun f s W hW l m n p a => opr rfl rfl (by simp [go_sem, a.e 49 (l 3 rfl), a.e 53 (l 7 rfl), a.e 57 (l 11 rfl), a.e 61 (l 15 rfl)]),
  fun f s W hW l m n p a => opv rfl rfl (by simp [go_sem, a.e 62 (l 16 rfl).1, upd]) rfl, trivial⟩ ?_
 intro f6 s6 W6 hB6 g6 hg6 z6
 have b6_1 := hB6.b b5_1
 obtain ⟨r6_16, br6_16⟩ := hB6.is 16
 have lr6_16 := hB6.lr 16 br6_16
 refine hK9 _ _ ?_
 have k6_3 := kt hg6 3 k5_3
 have k6_8 := kt hg6 8 (hB6.is 17)
 refine wp_seq_k fun K10 hK10 => ?_
 as_aux_lemma =>
 refine rz 9 [(63, 0), (64, 1), (65, 2), (66, 3), (67, 4), (68, 5), (69, 6), (70, 7), (9, 8)] [[], [], [1], [1, 2], [1, 2, 3], [], [], [0, 1, 2, 3, 4, 5, 6], [], [0, 1, 2, 3, 4, 5, 6, 7, 8]] (rel [is (.slice (some ⟨(s6 16), 0, none⟩) (4) (4)), is (.pointer (some ⟨(s1 1), 2, none⟩)), is (.int .u8 v2), iI v2, iI (60 + v2), row 5 2 #[.int .i64 0, .int .i64 0] 3, row 6 2 #[.int .i64 60, .int .i64 60] 3, isS fun s => .agg #[.int .i64 0, .slice (some ⟨(s6 16), 0, none⟩) (4) (4), .int .i64 (60 + v2), .slice (some ⟨(s 5), 0, none⟩) (2) (2), .slice (some ⟨(s 6), 0, none⟩) (2) (2), .int .i64 10, .bool true], bx 8 #[.int .i64 0, .slice none 0 0, .int .i64 0, .slice none 0 0, .slice none 0 0, .int .i64 0, .bool false] 41])
  ⟨is_k, is_k, is_k, is_k, is_k, row_k, row_k, isS_k fun s s' e => by rw [e 5 (by simp), e 6 (by simp)], bx_k, trivial⟩
  ⟨fun f s W hW l m n p a => opm (a.v 8 k6_8),
  fun f s W hW l m n p a => opv rfl rfl (by simp [go_sem, a.e 3 k6_3]) rfl,
  fun f s W hW l m n p a => opv rfl rfl (by simp [go_sem, a.e 64 (l 1 rfl), cl (bwb b6_1 hW) 2]) rfl,
  fun f s W hW l m n p a => by have cv_ := IntWalk.i64_in (v2) (by omega); exact opv rfl rfl (by simp [go_sem, a.e 65 (l 2 rfl), cv_]) rfl,
  fun f s W hW l m n p a => opv rfl rfl (by simp [go_sem, a.e 66 (l 3 rfl), IntWalk.i64_in (60 + v2) (by omega)]) rfl,
  fun f s W hW l m n p a => opr rfl rfl (by simp [go_sem]),
  fun f s W hW l m n p a => opr rfl rfl (by simp [go_sem]),
  fun f s W hW l m n p a => opv rfl rfl (by simp [go_sem, a.e 63 (l 0 rfl), a.e 67 (l 4 rfl), a.e 68 (l 5 rfl).1, a.e 69 (l 6 rfl).1, upd]) rfl,
  fun f s W hW l m n p a => opb rfl rfl (by simp [go_sem]), trivial⟩ ?_
 intro f7 s7 W7 hB7 g7 hg7 z7
 have fB7 := hB7.f (hB6.f (hB5.f (hB4.f fB2)))
 have b7_0 := hB7.b (hB6.b (hB5.b (hB4.b b2_0)))
 have b7_1 := hB7.b b6_1
 have b7_2 := hB7.b (hB6.b (hB5.b (hB4.b bs2_9)))
 have b7_3 := hB7.b (hB6.b (hB5.b b4_3))
 have b7_4 := hB7.b br6_16
 obtain ⟨r7_5, br7_5⟩ := hB7.is 5
 have lr7_5 := hB7.lr 5 br7_5
 obtain ⟨r7_6, br7_6⟩ := hB7.is 6
 have lr7_6 := hB7.lr 6 br7_6
 obtain ⟨r7_8, br7_8⟩ := hB7.is 8
 have lr7_8 := hB7.lr 8 br7_8
 have ne7_5_6 := hB7.nb 5 6
 have ne7_5_8 := hB7.nb 5 8
 have ne7_6_8 := hB7.nb 6 8
 have k7_70 := kt hg7 70 (hB7.is 7)
 have k7_9 := kt hg7 9 r7_8
 obtain ⟨W8, hW8⟩ : ∃ W', W' = W7.setRow (s7 8) #[.int .i64 0, .slice (some ⟨(s6 16), 0, none⟩) (4) (4), .int .i64 (60 + v2), .slice (some ⟨(s7 5), 0, none⟩) (2) (2), .slice (some ⟨(s7 6), 0, none⟩) (2) (2), .int .i64 10, .bool true] := ⟨_, rfl⟩
 refine tsk (o := _) rfl ⟨rfl, rfl⟩ (run_seg hW8 (fr_ev k7_9) (fr_ev k7_70) br7_8 rfl rfl rfl rfl) ?_
 obtain ⟨fB8, nb8, ot8, z8⟩ := sgf hW8 fB7 br7_8 (by omega)
 clear hW8
 have b8_0 := ot8 _ _ nea b7_0
 have b8_1 := ot8 _ _ nea b7_1
 have b8_2 := ot8 _ _ nea b7_2
 have b8_3 := ot8 _ _ nea b7_3
 have b8_4 := ot8 _ _ nea b7_4
 have b8_5 := ot8 _ _ nea br7_5
 have b8_6 := ot8 _ _ nea br7_6
 refine wpe ?_
 refine hK10 _ _ ?_
 refine wp_seq_k fun K11 hK11 => ?_
 as_aux_lemma =>
 refine rz 3 [(71, 0), (72, 1), (10, 2)] [[], [0], [], [0, 1, 2]] (rel [is (.agg #[.int .i64 0, .slice (some ⟨(s6 16), 0, none⟩) (4) (4), .int .i64 (60 + v2), .slice (some ⟨(s7 5), 0, none⟩) (2) (2), .slice (some ⟨(s7 6), 0, none⟩) (2) (2), .int .i64 10, .bool true]), fun v s W => OwBlk (s 1) ((⟨0, [150 + v0, 120 + v1, 150 + v0, 120 + v1], 60 + v2, [0, 0], [60, 60], 10, true⟩ : Bl)) v W, bx 2 #[.int .i64 0, .slice none 0 0, .int .i64 0, .slice none 0 0, .slice none 0 0, .int .i64 0, .bool false] 41])
  ⟨is_k, ⟨fun v k W W' hb h => h.below hb, fun v s s' W e h => by have h' : OwBlk (s 1) ((⟨0, [150 + v0, 120 + v1, 150 + v0, 120 + v1], 60 + v2, [0, 0], [60, 60], 10, true⟩ : Bl)) v W := h; show OwBlk (s' 1) ((⟨0, [150 + v0, 120 + v1, 150 + v0, 120 + v1], 60 + v2, [0, 0], [60, 60], 10, true⟩ : Bl)) v W; rw [← e 1 (by simp)]; exact h'⟩, bx_k, trivial⟩
  ⟨fun f s W hW l m n p a => opl rfl rfl rfl (a.v 9 k7_9) (bwb nb8 hW) Try.underlying41 rfl (by kernel_rfl) rfl,
  fun f s W hW l m n p a => opd (args := #[.agg #[.int .i64 0, .slice (some ⟨(s6 16), 0, none⟩) (4) (4), .int .i64 (60 + v2), .slice (some ⟨(s7 5), 0, none⟩) (2) (2), .slice (some ⟨(s7 6), 0, none⟩) (2) (2), .int .i64 10, .bool true]]) rfl rfl (by simp [go_sem, a.e 71 (l 0 rfl)]) (armBlank_own _ _ _ _ _ _ 0 (150 + v0) (120 + v1) (150 + v0) (120 + v1) (60 + v2) 0 0 60 60 10 true W (ii_block (xs := [150 + v0, 120 + v1, 150 + v0, 120 + v1]) (bwb b8_4 hW) rfl rfl) (ii_block (xs := [0, 0]) (bwb b8_5 hW) rfl rfl) (ii_block (xs := [60, 60]) (bwb b8_6 hW) rfl rfl)) (fun e W' h => by obtain ⟨v, e1, h1, h2⟩ := h; exact ⟨v, e1, h2, (show OwBlk (upd s 1 W.heap.size 1) ((⟨0, [150 + v0, 120 + v1, 150 + v0, 120 + v1], 60 + v2, [0, 0], [60, 60], 10, true⟩ : Bl)) v W' from by rw [upd_at]; exact h1)⟩),
  fun f s W hW l m n p a => opb rfl rfl (by simp [go_sem]), trivial⟩ ?_
 intro f9 s9 W9 hB9 g9 hg9 z9
 have fB9 := hB9.f fB8
 have b9_0 := hB9.b b8_0
 have b9_1 := hB9.b b8_1
 have b9_2 := hB9.b b8_2
 have b9_3 := hB9.b b8_3
 have b9_4 := hB9.b b8_4
 have b9_5 := hB9.b b8_5
 have b9_6 := hB9.b b8_6
 have b9_7 := hB9.b nb8
 obtain ⟨g9', c12', g10', c13', g11', c14', r9_1, q15', q16', q17', q18', q19', q20'⟩ := hB9.is 1
 have la9_1 := hB9.from' 1 (by decide)
 have lo9_1_o0 := q15'.lim
 have q21' := q15'.low (B' := w.heap.size) (Nat.le_trans fB8.size (la9_1))
 have lo9_1_o1 := q16'.lim
 have q22' := q16'.low (B' := w.heap.size) (Nat.le_trans fB8.size (la9_1))
 have lo9_1_o2 := q17'.lim
 have q23' := q17'.low (B' := w.heap.size) (Nat.le_trans fB8.size (la9_1))
 obtain ⟨r9_2, br9_2⟩ := hB9.is 2
 have lr9_2 := hB9.lr 2 br9_2
 have oo9_1_o0_2 := hB9.off 1 2 (by decide) (by decide) (by decide) lo9_1_o0.1 (fun W h => (OwBlk.lt h r9_1).1) (fun _ _ _ h => ltb h.2)
 have oo9_1_o1_2 := hB9.off 1 2 (by decide) (by decide) (by decide) lo9_1_o1.1 (fun W h => (OwBlk.lt h r9_1).2.1) (fun _ _ _ h => ltb h.2)
 have oo9_1_o2_2 := hB9.off 1 2 (by decide) (by decide) (by decide) lo9_1_o2.1 (fun W h => (OwBlk.lt h r9_1).2.2) (fun _ _ _ h => ltb h.2)
 have k9_3 := kt hg9 3 (kt hg7 3 k6_3)
 have k9_6 := kt hg9 6 (kt hg7 6 (kt hg6 6 (kt hg5 6 k4_6)))
 have k9_72 := kt hg9 72 r9_1
 have k9_10 := kt hg9 10 r9_2
 obtain ⟨W10, hW10⟩ : ∃ W', W' = W9.setRow (s9 2) #[.int .i64 0, .slice (some ⟨g9', 0, none⟩) 4 c12', .int .i64 (60 + v2), .slice (some ⟨g10', 0, none⟩) 2 c13', .slice (some ⟨g11', 0, none⟩) 2 c14', .int .i64 10, .bool true] := ⟨_, rfl⟩
 refine tsk (o := _) rfl ⟨rfl, rfl⟩ (run_seg hW10 (fr_ev k9_10) (fr_ev k9_72) br9_2 rfl rfl rfl rfl) ?_
 obtain ⟨fB10, nb10, ot10, z10⟩ := sgf hW10 fB9 br9_2 (by omega)
 clear hW10
 have b10_0 := ot10 _ _ nea b9_0
 have b10_1 := ot10 _ _ nea b9_1
 have b10_2 := ot10 _ _ nea b9_2
 have b10_3 := ot10 _ _ nea b9_3
 have b10_4 := ot10 _ _ nea b9_4
 have b10_5 := ot10 _ _ nea b9_5
 have b10_6 := ot10 _ _ nea b9_6
 have b10_7 := ot10 _ _ nea b9_7
 have q24' := q21'.other ot10 nea z10
 have q25' := q22'.other ot10 nea z10
 have q26' := q23'.other ot10 nea z10
 refine wpe ?_
 refine hK11 _ _ ?_
 refine wp_seq_k fun K12 hK12 => ?_
 as_aux_lemma =>
 refine ry 11 [(73, 0), (74, 1), (75, 2), (76, 3), (77, 4), (78, 5), (79, 6), (80, 7), (81, 8), (82, 9), (11, 10)] [[], [0], [1], [2], [3], [], [5], [6], [7], [4, 8], [9]] (rel [is (.pointer (some ⟨(s2 10), 1, none⟩)), iI kb, iI (kb + 999), iI cq, iI (2 * cq), is (.pointer (some ⟨(s1 1), 3, none⟩)), is (.int .u8 v3), iI v3, iI r5, iI ((2 * cq) + r5), iI ((2 * cq) + r5)])
  ⟨fun f s W hW l m n p a => opv rfl rfl (by simp [go_sem, a.e 6 k9_6]) rfl,
  fun f s W hW l m n p a => opv rfl rfl (by simp [go_sem, a.e 73 (l 0 rfl), cl (bwb b10_3 hW) 1]) rfl,
  fun f s W hW l m n p a => opv rfl rfl (by simp [go_sem, a.e 74 (l 1 rfl), IntWalk.i64_in (kb + 999) (by omega)]) rfl,
  fun f s W hW l m n p a => by have qu_ : (kb + 999).tdiv 1000 = cq := (Int.tdiv_eq_ediv_of_nonneg (by omega)).trans hcq; have qw_ := IntWalk.i64_in cq (by omega); exact opv rfl rfl (by simp [go_sem, a.e 75 (l 2 rfl), qu_, qw_]) rfl,
  fun f s W hW l m n p a => opv rfl rfl (by simp [go_sem, a.e 76 (l 3 rfl), IntWalk.i64_in (2 * cq) (by omega)]) rfl,
  fun f s W hW l m n p a => opv rfl rfl (by simp [go_sem, a.e 3 k9_3]) rfl,
  fun f s W hW l m n p a => opv rfl rfl (by simp [go_sem, a.e 78 (l 5 rfl), cl (bwb b10_1 hW) 3]) rfl,
  fun f s W hW l m n p a => by have cv_ := IntWalk.i64_in (v3) (by omega); exact opv rfl rfl (by simp [go_sem, a.e 79 (l 6 rfl), cv_]) rfl,
  fun f s W hW l m n p a => by have qu_ : (v3).tmod 5 = r5 := (Int.tmod_eq_emod_of_nonneg (by omega)).trans hr5; have qw_ := IntWalk.i64_in r5 (by omega); exact opv rfl rfl (by simp [go_sem, a.e 80 (l 7 rfl), qu_, qw_]) rfl,
  fun f s W hW l m n p a => opv rfl rfl (by simp [go_sem, a.e 77 (l 4 rfl), a.e 81 (l 8 rfl), IntWalk.i64_in ((2 * cq) + r5) (by omega)]) rfl,
  fun f s W hW l m n p a => opm (a.v 82 (l 9 rfl)), trivial⟩ ?_
 intro f11 s11 W11 hB11 g11 hg11 z11
 have q27' := (q24'.below hB11.below)
 have q28' := (q25'.below hB11.below)
 have q29' := (q26'.below hB11.below)
 refine hK12 _ _ ?_
 have k11_11 := kt hg11 11 (hB11.is 10)
 have kz30 : g11 11 = .int .i64 mo := k11_11.trans (by rw [hmo])
 refine wp_seq_k fun K13 hK13 => ?_
 refine wp_seq_k fun K14 hK14 => ?_
 as_aux_lemma =>
 refine ry 1 [(12, 0)] [[]] (rel [iI 0])
  ⟨fun f s W hW l m n p a => opz, trivial⟩ ?_
 intro f12 s12 W12 hB12 g12 hg12 z12
 have q31' := (q27'.below hB12.below)
 have q32' := (q28'.below hB12.below)
 have q33' := (q29'.below hB12.below)
 refine hK14 _ _ ?_
 have k12_12 := kt hg12 12 (hB12.is 0)
 refine wp_block ?_
 refine wp_loop_rounds 5 ?_
 rw [rounds_succ]
 refine wp_seq_k fun K15 hK15 => ?_
 refine wp_seq_k fun K16 hK16 => ?_
 as_aux_lemma =>
 refine ry 2 [(83, 0), (84, 1)] [[], [0]] (rel [iI 0, iB true])
  ⟨fun f s W hW l m n p a => opm (a.v 12 k12_12),
  fun f s W hW l m n p a => opv rfl rfl (by simp [go_sem, a.e 83 (l 0 rfl)]) rfl, trivial⟩ ?_
 intro f13 s13 W13 hB13 g13 hg13 z13
 have b13_8 := hB13.b (hB12.b (hB11.b nb10))
 have q34' := (q31'.below hB13.below)
 have q35' := (q32'.below hB13.below)
 have q36' := (q33'.below hB13.below)
 refine hK16 _ _ ?_
 have k13_10 := kt hg13 10 (kt hg12 10 (kt hg11 10 k9_10))
 have k13_11 := kt hg13 11 (kt hg12 11 kz30)
 have k13_12 := kt hg13 12 k12_12
 have k13_84 := kt hg13 84 (hB13.is 1)
 refine wp_cond_true ((fr_eval rfl).trans k13_84) ?_
 refine wp_skip ?_
 refine hK15 _ _ ?_
 refine wp_seq_k fun K18 hK18 => ?_
 refine wp_block ?_
 as_aux_lemma =>
 refine ry 8 [(87, 0), (88, 1), (89, 2), (90, 3), (91, 4), (92, 5), (93, 6), (94, 7)] [[], [0], [], [1, 2], [3], [], [4, 5], [1, 2], [0, 1, 2, 3, 4, 5, 6, 7]] (rel [is (.pointer (some ⟨(s9 2), 1, none⟩)), is (.slice (some ⟨g9', 0, none⟩) 4 c12'), iI 0, is (.pointer (some ⟨g9', 0, none⟩)), iI (150 + v0), iI mo, iI ((150 + v0) + mo), is (.pointer (some ⟨g9', 0, none⟩))])
  ⟨fun f s W hW l m n p a => opv rfl rfl (by simp [go_sem, a.e 10 k13_10]) rfl,
  fun f s W hW l m n p a => opv rfl rfl (by simp [go_sem, a.e 87 (l 0 rfl), cl (bwb b13_8 hW) 1]) rfl,
  fun f s W hW l m n p a => opm (a.v 12 k13_12),
  fun f s W hW l m n p a => opv rfl rfl (by simp [go_sem, a.e 88 (l 1 rfl), a.e 89 (l 2 rfl)]) rfl,
  fun f s W hW l m n p a => by have u4_ : W.cell? ⟨g9', 0, none⟩ = some (.int .i64 (150 + v0)) := (OwnI.cell ((q34'.below hW)) (i := 0) (by simp)); exact opv rfl rfl (by simp [go_sem, a.e 90 (l 3 rfl), u4_]) rfl,
  fun f s W hW l m n p a => opm (a.v 11 k13_11),
  fun f s W hW l m n p a => opv rfl rfl (by simp [go_sem, a.e 91 (l 4 rfl), a.e 92 (l 5 rfl), IntWalk.i64_in ((150 + v0) + mo) (by omega)]) rfl,
  fun f s W hW l m n p a => opv rfl rfl (by simp [go_sem, a.e 88 (l 1 rfl), a.e 89 (l 2 rfl)]) rfl, trivial⟩ ?_
 intro f14 s14 W14 hB14 g14 hg14 z14
 have fB14 := hB14.f (hB13.f (hB12.f (hB11.f fB10)))
 have b14_0 := hB14.b (hB13.b (hB12.b (hB11.b b10_0)))
 have b14_1 := hB14.b (hB13.b (hB12.b (hB11.b b10_1)))
 have b14_2 := hB14.b (hB13.b (hB12.b (hB11.b b10_2)))
 have b14_3 := hB14.b (hB13.b (hB12.b (hB11.b b10_3)))
 have b14_4 := hB14.b (hB13.b (hB12.b (hB11.b b10_4)))
 have b14_5 := hB14.b (hB13.b (hB12.b (hB11.b b10_5)))
 have b14_6 := hB14.b (hB13.b (hB12.b (hB11.b b10_6)))
 have b14_7 := hB14.b (hB13.b (hB12.b (hB11.b b10_7)))
 have b14_8 := hB14.b b13_8
 have q37' := (q34'.below hB14.below)
 have q38' := (q35'.below hB14.below)
 have q39' := (q36'.below hB14.below)
 have k14_12 := kt hg14 12 k13_12
 have k14_93 := kt hg14 93 (hB14.is 6)
 have k14_94 := kt hg14 94 (hB14.is 7)
 obtain ⟨W15, st15, ow15, ot15, z15, fB15⟩ := storeI_tail (c := c12') (i := 0) (x := (150 + v0) + mo) ([(150 + v0) + mo, 120 + v1, 150 + v0, 120 + v1]) (by simp) rfl fB14 q37'
 refine tsk (o := _) rfl ⟨rfl, rfl⟩ (st15 (fr_ev k14_94) (fr_ev k14_93)) ?_
 have b15_0 := ot15 _ _ nea b14_0
 have b15_1 := ot15 _ _ nea b14_1
 have b15_2 := ot15 _ _ nea b14_2
 have b15_3 := ot15 _ _ nea b14_3
 have b15_4 := ot15 _ _ nea b14_4
 have b15_5 := ot15 _ _ nea b14_5
 have b15_6 := ot15 _ _ nea b14_6
 have b15_7 := ot15 _ _ nea b14_7
 have b15_8 := ot15 _ _ nea b14_8
 have q40' := q38'.other ot15 nea z15
 have q41' := q39'.other ot15 nea z15
 refine wpe ?_
 refine ibn ?_
 refine hK18 _ _ ?_
 as_aux_lemma =>
 refine ry 3 [(85, 0), (86, 1), (12, 2)] [[], [0], [0, 1]] (rel [iI 0, iI 1, iI 1])
  ⟨fun f s W hW l m n p a => opm (a.v 12 ((n 2 12 rfl rfl).trans k14_12)),
  fun f s W hW l m n p a => opv rfl rfl (by simp [go_sem, a.e 85 (l 0 rfl), IntWalk.i64_in (1) (by omega)]) rfl,
  fun f s W hW l m n p a => opm (a.v 86 (l 1 rfl)), trivial⟩ ?_
 intro f16 s16 W16 hB16 g16 hg16 z16
 have q42' := (q40'.below hB16.below)
 have q43' := (q41'.below hB16.below)
 have q44' := (ow15.below hB16.below)
 refine wpe ?_
 have k16_12 := kt hg16 12 (hB16.is 2)
 refine then_normal ?_
 rw [rounds_succ]
 refine wp_seq_k fun K19 hK19 => ?_
 refine wp_seq_k fun K20 hK20 => ?_
 as_aux_lemma =>
 refine ry 2 [(83, 0), (84, 1)] [[], [0]] (rel [iI 1, iB true])
  ⟨fun f s W hW l m n p a => opm (a.v 12 k16_12),
  fun f s W hW l m n p a => opv rfl rfl (by simp [go_sem, a.e 83 (l 0 rfl)]) rfl, trivial⟩ ?_
 intro f17 s17 W17 hB17 g17 hg17 z17
 have b17_8 := hB17.b (hB16.b b15_8)
 have q45' := (q42'.below hB17.below)
 have q46' := (q43'.below hB17.below)
 have q47' := (q44'.below hB17.below)
 refine hK20 _ _ ?_
 have k17_10 := kt hg17 10 (kt hg16 10 (kt hg14 10 k13_10))
 have k17_11 := kt hg17 11 (kt hg16 11 (kt hg14 11 k13_11))
 have k17_12 := kt hg17 12 k16_12
 have k17_84 := kt hg17 84 (hB17.is 1)
 refine wp_cond_true ((fr_eval rfl).trans k17_84) ?_
 refine wp_skip ?_
 refine hK19 _ _ ?_
 refine wp_seq_k fun K22 hK22 => ?_
 refine wp_block ?_
 as_aux_lemma =>
 refine ry 8 [(87, 0), (88, 1), (89, 2), (90, 3), (91, 4), (92, 5), (93, 6), (94, 7)] [[], [0], [], [1, 2], [3], [], [4, 5], [1, 2], [0, 1, 2, 3, 4, 5, 6, 7]] (rel [is (.pointer (some ⟨(s9 2), 1, none⟩)), is (.slice (some ⟨g9', 0, none⟩) 4 c12'), iI 1, is (.pointer (some ⟨g9', 1, none⟩)), iI (120 + v1), iI mo, iI ((120 + v1) + mo), is (.pointer (some ⟨g9', 1, none⟩))])
  ⟨fun f s W hW l m n p a => opv rfl rfl (by simp [go_sem, a.e 10 k17_10]) rfl,
  fun f s W hW l m n p a => opv rfl rfl (by simp [go_sem, a.e 87 (l 0 rfl), cl (bwb b17_8 hW) 1]) rfl,
  fun f s W hW l m n p a => opm (a.v 12 k17_12),
  fun f s W hW l m n p a => opv rfl rfl (by simp [go_sem, a.e 88 (l 1 rfl), a.e 89 (l 2 rfl)]) rfl,
  fun f s W hW l m n p a => by have u4_ : W.cell? ⟨g9', 1, none⟩ = some (.int .i64 (120 + v1)) := (OwnI.cell ((q47'.below hW)) (i := 1) (by simp)); exact opv rfl rfl (by simp [go_sem, a.e 90 (l 3 rfl), u4_]) rfl,
  fun f s W hW l m n p a => opm (a.v 11 k17_11),
  fun f s W hW l m n p a => opv rfl rfl (by simp [go_sem, a.e 91 (l 4 rfl), a.e 92 (l 5 rfl), IntWalk.i64_in ((120 + v1) + mo) (by omega)]) rfl,
  fun f s W hW l m n p a => opv rfl rfl (by simp [go_sem, a.e 88 (l 1 rfl), a.e 89 (l 2 rfl)]) rfl, trivial⟩ ?_
 intro f18 s18 W18 hB18 g18 hg18 z18
 have fB18 := hB18.f (hB17.f (hB16.f fB15))
 have b18_0 := hB18.b (hB17.b (hB16.b b15_0))
 have b18_1 := hB18.b (hB17.b (hB16.b b15_1))
 have b18_2 := hB18.b (hB17.b (hB16.b b15_2))
 have b18_3 := hB18.b (hB17.b (hB16.b b15_3))
 have b18_4 := hB18.b (hB17.b (hB16.b b15_4))
 have b18_5 := hB18.b (hB17.b (hB16.b b15_5))
 have b18_6 := hB18.b (hB17.b (hB16.b b15_6))
 have b18_7 := hB18.b (hB17.b (hB16.b b15_7))
 have b18_8 := hB18.b b17_8
 have q48' := (q45'.below hB18.below)
 have q49' := (q46'.below hB18.below)
 have q50' := (q47'.below hB18.below)
 have k18_12 := kt hg18 12 k17_12
 have k18_93 := kt hg18 93 (hB18.is 6)
 have k18_94 := kt hg18 94 (hB18.is 7)
 obtain ⟨W19, st19, ow19, ot19, z19, fB19⟩ := storeI_tail (c := c12') (i := 1) (x := (120 + v1) + mo) ([(150 + v0) + mo, (120 + v1) + mo, 150 + v0, 120 + v1]) (by simp) rfl fB18 q50'
 refine tsk (o := _) rfl ⟨rfl, rfl⟩ (st19 (fr_ev k18_94) (fr_ev k18_93)) ?_
 have b19_0 := ot19 _ _ nea b18_0
 have b19_1 := ot19 _ _ nea b18_1
 have b19_2 := ot19 _ _ nea b18_2
 have b19_3 := ot19 _ _ nea b18_3
 have b19_4 := ot19 _ _ nea b18_4
 have b19_5 := ot19 _ _ nea b18_5
 have b19_6 := ot19 _ _ nea b18_6
 have b19_7 := ot19 _ _ nea b18_7
 have b19_8 := ot19 _ _ nea b18_8
 have q51' := q48'.other ot19 nea z19
 have q52' := q49'.other ot19 nea z19
 refine wpe ?_
 refine ibn ?_
 refine hK22 _ _ ?_
 as_aux_lemma =>
 refine ry 3 [(85, 0), (86, 1), (12, 2)] [[], [0], [0, 1]] (rel [iI 1, iI 2, iI 2])
  ⟨fun f s W hW l m n p a => opm (a.v 12 ((n 2 12 rfl rfl).trans k18_12)),
  fun f s W hW l m n p a => opv rfl rfl (by simp [go_sem, a.e 85 (l 0 rfl), IntWalk.i64_in (2) (by omega)]) rfl,
  fun f s W hW l m n p a => opm (a.v 86 (l 1 rfl)), trivial⟩ ?_
 intro f20 s20 W20 hB20 g20 hg20 z20
 have q53' := (q51'.below hB20.below)
 have q54' := (q52'.below hB20.below)
 have q55' := (ow19.below hB20.below)
 refine wpe ?_
 have k20_12 := kt hg20 12 (hB20.is 2)
 refine then_normal ?_
 rw [rounds_succ]
 refine wp_seq_k fun K23 hK23 => ?_
 refine wp_seq_k fun K24 hK24 => ?_
 as_aux_lemma =>
 refine ry 2 [(83, 0), (84, 1)] [[], [0]] (rel [iI 2, iB true])
  ⟨fun f s W hW l m n p a => opm (a.v 12 k20_12),
  fun f s W hW l m n p a => opv rfl rfl (by simp [go_sem, a.e 83 (l 0 rfl)]) rfl, trivial⟩ ?_
 intro f21 s21 W21 hB21 g21 hg21 z21
 have b21_8 := hB21.b (hB20.b b19_8)
 have q56' := (q53'.below hB21.below)
 have q57' := (q54'.below hB21.below)
 have q58' := (q55'.below hB21.below)
 refine hK24 _ _ ?_
 have k21_10 := kt hg21 10 (kt hg20 10 (kt hg18 10 k17_10))
 have k21_11 := kt hg21 11 (kt hg20 11 (kt hg18 11 k17_11))
 have k21_12 := kt hg21 12 k20_12
 have k21_84 := kt hg21 84 (hB21.is 1)
 refine wp_cond_true ((fr_eval rfl).trans k21_84) ?_
 refine wp_skip ?_
 refine hK23 _ _ ?_
 refine wp_seq_k fun K26 hK26 => ?_
 refine wp_block ?_
 as_aux_lemma =>
 refine ry 8 [(87, 0), (88, 1), (89, 2), (90, 3), (91, 4), (92, 5), (93, 6), (94, 7)] [[], [0], [], [1, 2], [3], [], [4, 5], [1, 2], [0, 1, 2, 3, 4, 5, 6, 7]] (rel [is (.pointer (some ⟨(s9 2), 1, none⟩)), is (.slice (some ⟨g9', 0, none⟩) 4 c12'), iI 2, is (.pointer (some ⟨g9', 2, none⟩)), iI (150 + v0), iI mo, iI ((150 + v0) + mo), is (.pointer (some ⟨g9', 2, none⟩))])
  ⟨fun f s W hW l m n p a => opv rfl rfl (by simp [go_sem, a.e 10 k21_10]) rfl,
  fun f s W hW l m n p a => opv rfl rfl (by simp [go_sem, a.e 87 (l 0 rfl), cl (bwb b21_8 hW) 1]) rfl,
  fun f s W hW l m n p a => opm (a.v 12 k21_12),
  fun f s W hW l m n p a => opv rfl rfl (by simp [go_sem, a.e 88 (l 1 rfl), a.e 89 (l 2 rfl)]) rfl,
  fun f s W hW l m n p a => by have u4_ : W.cell? ⟨g9', 2, none⟩ = some (.int .i64 (150 + v0)) := (OwnI.cell ((q58'.below hW)) (i := 2) (by simp)); exact opv rfl rfl (by simp [go_sem, a.e 90 (l 3 rfl), u4_]) rfl,
  fun f s W hW l m n p a => opm (a.v 11 k21_11),
  fun f s W hW l m n p a => opv rfl rfl (by simp [go_sem, a.e 91 (l 4 rfl), a.e 92 (l 5 rfl), IntWalk.i64_in ((150 + v0) + mo) (by omega)]) rfl,
  fun f s W hW l m n p a => opv rfl rfl (by simp [go_sem, a.e 88 (l 1 rfl), a.e 89 (l 2 rfl)]) rfl, trivial⟩ ?_
 intro f22 s22 W22 hB22 g22 hg22 z22
 have fB22 := hB22.f (hB21.f (hB20.f fB19))
 have b22_0 := hB22.b (hB21.b (hB20.b b19_0))
 have b22_1 := hB22.b (hB21.b (hB20.b b19_1))
 have b22_2 := hB22.b (hB21.b (hB20.b b19_2))
 have b22_3 := hB22.b (hB21.b (hB20.b b19_3))
 have b22_4 := hB22.b (hB21.b (hB20.b b19_4))
 have b22_5 := hB22.b (hB21.b (hB20.b b19_5))
 have b22_6 := hB22.b (hB21.b (hB20.b b19_6))
 have b22_7 := hB22.b (hB21.b (hB20.b b19_7))
 have b22_8 := hB22.b b21_8
 have q59' := (q56'.below hB22.below)
 have q60' := (q57'.below hB22.below)
 have q61' := (q58'.below hB22.below)
 have k22_12 := kt hg22 12 k21_12
 have k22_93 := kt hg22 93 (hB22.is 6)
 have k22_94 := kt hg22 94 (hB22.is 7)
 obtain ⟨W23, st23, ow23, ot23, z23, fB23⟩ := storeI_tail (c := c12') (i := 2) (x := (150 + v0) + mo) ([(150 + v0) + mo, (120 + v1) + mo, (150 + v0) + mo, 120 + v1]) (by simp) rfl fB22 q61'
 refine tsk (o := _) rfl ⟨rfl, rfl⟩ (st23 (fr_ev k22_94) (fr_ev k22_93)) ?_
 have b23_0 := ot23 _ _ nea b22_0
 have b23_1 := ot23 _ _ nea b22_1
 have b23_2 := ot23 _ _ nea b22_2
 have b23_3 := ot23 _ _ nea b22_3
 have b23_4 := ot23 _ _ nea b22_4
 have b23_5 := ot23 _ _ nea b22_5
 have b23_6 := ot23 _ _ nea b22_6
 have b23_7 := ot23 _ _ nea b22_7
 have b23_8 := ot23 _ _ nea b22_8
 have q62' := q59'.other ot23 nea z23
 have q63' := q60'.other ot23 nea z23
 refine wpe ?_
 refine ibn ?_
 refine hK26 _ _ ?_
 as_aux_lemma =>
 refine ry 3 [(85, 0), (86, 1), (12, 2)] [[], [0], [0, 1]] (rel [iI 2, iI 3, iI 3])
  ⟨fun f s W hW l m n p a => opm (a.v 12 ((n 2 12 rfl rfl).trans k22_12)),
  fun f s W hW l m n p a => opv rfl rfl (by simp [go_sem, a.e 85 (l 0 rfl), IntWalk.i64_in (3) (by omega)]) rfl,
  fun f s W hW l m n p a => opm (a.v 86 (l 1 rfl)), trivial⟩ ?_
 intro f24 s24 W24 hB24 g24 hg24 z24
 have q64' := (q62'.below hB24.below)
 have q65' := (q63'.below hB24.below)
 have q66' := (ow23.below hB24.below)
 refine wpe ?_
 have k24_12 := kt hg24 12 (hB24.is 2)
 refine then_normal ?_
 rw [rounds_succ]
 refine wp_seq_k fun K27 hK27 => ?_
 refine wp_seq_k fun K28 hK28 => ?_
 as_aux_lemma =>
 refine ry 2 [(83, 0), (84, 1)] [[], [0]] (rel [iI 3, iB true])
  ⟨fun f s W hW l m n p a => opm (a.v 12 k24_12),
  fun f s W hW l m n p a => opv rfl rfl (by simp [go_sem, a.e 83 (l 0 rfl)]) rfl, trivial⟩ ?_
 intro f25 s25 W25 hB25 g25 hg25 z25
 have b25_8 := hB25.b (hB24.b b23_8)
 have q67' := (q64'.below hB25.below)
 have q68' := (q65'.below hB25.below)
 have q69' := (q66'.below hB25.below)
 refine hK28 _ _ ?_
 have k25_10 := kt hg25 10 (kt hg24 10 (kt hg22 10 k21_10))
 have k25_11 := kt hg25 11 (kt hg24 11 (kt hg22 11 k21_11))
 have k25_12 := kt hg25 12 k24_12
 have k25_84 := kt hg25 84 (hB25.is 1)
 refine wp_cond_true ((fr_eval rfl).trans k25_84) ?_
 refine wp_skip ?_
 refine hK27 _ _ ?_
 refine wp_seq_k fun K30 hK30 => ?_
 refine wp_block ?_
 as_aux_lemma =>
 refine ry 8 [(87, 0), (88, 1), (89, 2), (90, 3), (91, 4), (92, 5), (93, 6), (94, 7)] [[], [0], [], [1, 2], [3], [], [4, 5], [1, 2], [0, 1, 2, 3, 4, 5, 6, 7]] (rel [is (.pointer (some ⟨(s9 2), 1, none⟩)), is (.slice (some ⟨g9', 0, none⟩) 4 c12'), iI 3, is (.pointer (some ⟨g9', 3, none⟩)), iI (120 + v1), iI mo, iI ((120 + v1) + mo), is (.pointer (some ⟨g9', 3, none⟩))])
  ⟨fun f s W hW l m n p a => opv rfl rfl (by simp [go_sem, a.e 10 k25_10]) rfl,
  fun f s W hW l m n p a => opv rfl rfl (by simp [go_sem, a.e 87 (l 0 rfl), cl (bwb b25_8 hW) 1]) rfl,
  fun f s W hW l m n p a => opm (a.v 12 k25_12),
  fun f s W hW l m n p a => opv rfl rfl (by simp [go_sem, a.e 88 (l 1 rfl), a.e 89 (l 2 rfl)]) rfl,
  fun f s W hW l m n p a => by have u4_ : W.cell? ⟨g9', 3, none⟩ = some (.int .i64 (120 + v1)) := (OwnI.cell ((q69'.below hW)) (i := 3) (by simp)); exact opv rfl rfl (by simp [go_sem, a.e 90 (l 3 rfl), u4_]) rfl,
  fun f s W hW l m n p a => opm (a.v 11 k25_11),
  fun f s W hW l m n p a => opv rfl rfl (by simp [go_sem, a.e 91 (l 4 rfl), a.e 92 (l 5 rfl), IntWalk.i64_in ((120 + v1) + mo) (by omega)]) rfl,
  fun f s W hW l m n p a => opv rfl rfl (by simp [go_sem, a.e 88 (l 1 rfl), a.e 89 (l 2 rfl)]) rfl, trivial⟩ ?_
 intro f26 s26 W26 hB26 g26 hg26 z26
 have fB26 := hB26.f (hB25.f (hB24.f fB23))
 have b26_0 := hB26.b (hB25.b (hB24.b b23_0))
 have b26_1 := hB26.b (hB25.b (hB24.b b23_1))
 have b26_2 := hB26.b (hB25.b (hB24.b b23_2))
 have b26_3 := hB26.b (hB25.b (hB24.b b23_3))
 have b26_4 := hB26.b (hB25.b (hB24.b b23_4))
 have b26_5 := hB26.b (hB25.b (hB24.b b23_5))
 have b26_6 := hB26.b (hB25.b (hB24.b b23_6))
 have b26_7 := hB26.b (hB25.b (hB24.b b23_7))
 have b26_8 := hB26.b b25_8
 have q70' := (q67'.below hB26.below)
 have q71' := (q68'.below hB26.below)
 have q72' := (q69'.below hB26.below)
 have k26_12 := kt hg26 12 k25_12
 have k26_93 := kt hg26 93 (hB26.is 6)
 have k26_94 := kt hg26 94 (hB26.is 7)
 obtain ⟨W27, st27, ow27, ot27, z27, fB27⟩ := storeI_tail (c := c12') (i := 3) (x := (120 + v1) + mo) ([(150 + v0) + mo, (120 + v1) + mo, (150 + v0) + mo, (120 + v1) + mo]) (by simp) rfl fB26 q72'
 refine tsk (o := _) rfl ⟨rfl, rfl⟩ (st27 (fr_ev k26_94) (fr_ev k26_93)) ?_
 have b27_0 := ot27 _ _ nea b26_0
 have b27_1 := ot27 _ _ nea b26_1
 have b27_2 := ot27 _ _ nea b26_2
 have b27_3 := ot27 _ _ nea b26_3
 have b27_4 := ot27 _ _ nea b26_4
 have b27_5 := ot27 _ _ nea b26_5
 have b27_6 := ot27 _ _ nea b26_6
 have b27_7 := ot27 _ _ nea b26_7
 have b27_8 := ot27 _ _ nea b26_8
 have q73' := q70'.other ot27 nea z27
 have q74' := q71'.other ot27 nea z27
 refine wpe ?_
 refine ibn ?_
 refine hK30 _ _ ?_
 as_aux_lemma =>
 refine ry 3 [(85, 0), (86, 1), (12, 2)] [[], [0], [0, 1]] (rel [iI 3, iI 4, iI 4])
  ⟨fun f s W hW l m n p a => opm (a.v 12 ((n 2 12 rfl rfl).trans k26_12)),
  fun f s W hW l m n p a => opv rfl rfl (by simp [go_sem, a.e 85 (l 0 rfl), IntWalk.i64_in (4) (by omega)]) rfl,
  fun f s W hW l m n p a => opm (a.v 86 (l 1 rfl)), trivial⟩ ?_
 intro f28 s28 W28 hB28 g28 hg28 z28
 have q75' := (q73'.below hB28.below)
 have q76' := (q74'.below hB28.below)
 have q77' := (ow27.below hB28.below)
 refine wpe ?_
 have k28_12 := kt hg28 12 (hB28.is 2)
 refine then_normal ?_
 rw [rounds_succ]
 refine wp_seq_k fun K31 hK31 => ?_
 refine wp_seq_k fun K32 hK32 => ?_
 as_aux_lemma =>
 refine ry 2 [(83, 0), (84, 1)] [[], [0]] (rel [iI 4, iB false])
  ⟨fun f s W hW l m n p a => opm (a.v 12 k28_12),
  fun f s W hW l m n p a => opv rfl rfl (by simp [go_sem, a.e 83 (l 0 rfl)]) rfl, trivial⟩ ?_
 intro f29 s29 W29 hB29 g29 hg29 z29
 have b29_3 := hB29.b (hB28.b b27_3)
 have b29_4 := hB29.b (hB28.b b27_4)
 have b29_5 := hB29.b (hB28.b b27_5)
 have b29_6 := hB29.b (hB28.b b27_6)
 have b29_7 := hB29.b (hB28.b b27_7)
 have b29_8 := hB29.b (hB28.b b27_8)
 have q78' := (q75'.below hB29.below)
 have q79' := (q76'.below hB29.below)
 have q80' := (q77'.below hB29.below)
 refine hK32 _ _ ?_
 have k29_6 := kt hg29 6 (kt hg28 6 (kt hg26 6 (kt hg25 6 (kt hg24 6 (kt hg22 6 (kt hg21 6 (kt hg20 6 (kt hg18 6 (kt hg17 6 (kt hg16 6 (kt hg14 6 (kt hg13 6 (kt hg12 6 (kt hg11 6 k9_6))))))))))))))
 have k29_9 := kt hg29 9 (kt hg28 9 (kt hg26 9 (kt hg25 9 (kt hg24 9 (kt hg22 9 (kt hg21 9 (kt hg20 9 (kt hg18 9 (kt hg17 9 (kt hg16 9 (kt hg14 9 (kt hg13 9 (kt hg12 9 (kt hg11 9 (kt hg9 9 k7_9)))))))))))))))
 have k29_10 := kt hg29 10 (kt hg28 10 (kt hg26 10 k25_10))
 have k29_84 := kt hg29 84 (hB29.is 1)
 refine wp_cond_false ((fr_eval rfl).trans k29_84) ?_
 refine wp_exit ?_
 refine then_exit ?_
 refine then_exit ?_
 refine inBlock_at ?_
 refine hK13 _ _ ?_
 refine wp_seq_k fun K34 hK34 => ?_
 as_aux_lemma =>
 refine rz 12 [(96, 0), (97, 1), (98, 2), (99, 3), (100, 4), (101, 5), (102, 6), (95, 7), (103, 8), (104, 9), (13, 10), (14, 11)] [[], [0], [], [0, 1, 2], [], [], [0, 1, 2, 3, 4, 5], [0, 1, 2, 3, 4, 5, 6], [0, 1, 2, 3, 4, 5, 6, 7], [0, 1, 2, 3, 4, 5, 6, 7], [0, 1, 2, 3, 4, 5, 6, 7, 8], [0, 1, 2, 3, 4, 5, 6, 7, 8, 9, 10]] (rel [is (.agg #[.int .i64 0, .slice (some ⟨g9', 0, none⟩) 4 c12', .int .i64 (60 + v2), .slice (some ⟨g10', 0, none⟩) 2 c13', .slice (some ⟨g11', 0, none⟩) 2 c14', .int .i64 10, .bool true]),
   ab fun v W => NwBlk 0 (b1) v W,
   is (.agg #[.int .i64 0, .slice (some ⟨(s6 16), 0, none⟩) (4) (4), .int .i64 (60 + v2), .slice (some ⟨(s7 5), 0, none⟩) (2) (2), .slice (some ⟨(s7 6), 0, none⟩) (2) (2), .int .i64 10, .bool true]),
   ab fun v W => NwBlk 0 (b2) v W,
   is (.agg #[.int .i64 ka, .int .i64 kb]),
   is (.agg #[.int .i64 ka, .int .i64 kb]),
   ab fun v W => ∃ x0, v = .tuple #[x0, .int .i64 0] ∧ IsPp PL x0 W,
   ab fun v W => ∃ x0, v = .tuple #[x0, .int .i64 0] ∧ IsPp PL x0 W,
   ab fun v W => IsPp PL v W,
   is (.int .i64 0),
   ab fun v W => IsPp PL v W,
   is (.int .i64 0)])
  ⟨is_k, ab_k fun v W W' hb h => h.below hb, is_k, ab_k fun v W W' hb h => h.below hb, is_k, is_k, ab_k fun v W W' hb ⟨x0, e, h0⟩ => ⟨x0, e, h0.below hb⟩, ab_k fun v W W' hb ⟨x0, e, h0⟩ => ⟨x0, e, h0.below hb⟩, ab_k fun v W W' hb h => h.below hb, is_k, ab_k fun v W W' hb h => h.below hb, is_k, trivial⟩
  ⟨fun f s W hW l m n p a => opl rfl rfl rfl (a.v 10 k29_10) (bwb b29_8 hW) Try.underlying41 rfl (by kernel_rfl) rfl,
  fun f s W hW l m n p a => opd (args := #[.agg #[.int .i64 0, .slice (some ⟨g9', 0, none⟩) 4 c12', .int .i64 (60 + v2), .slice (some ⟨g10', 0, none⟩) 2 c13', .slice (some ⟨g11', 0, none⟩) 2 c14', .int .i64 10, .bool true]]) rfl rfl (by simp [go_sem, a.e 96 (l 0 rfl)]) (armBlank_any _ _ _ _ _ _ (⟨0, [(150 + v0) + mo, (120 + v1) + mo, (150 + v0) + mo, (120 + v1) + mo], 60 + v2, [0, 0], [60, 60], 10, true⟩ : Bl) W ((q80'.below hW)).ii ((q78'.below hW)).ii ((q79'.below hW)).ii (show 4 ≤ 1000 by decide) (show 2 ≤ 1000 by decide) (show 2 ≤ 1000 by decide)) ((fun e W' h => by obtain ⟨v, e1, h1, h2⟩ := h; rw [hbk1] at h1; exact ⟨_, e1, h2, h1.low (Nat.zero_le _)⟩)),
  fun f s W hW l m n p a => opl rfl rfl rfl (a.v 9 k29_9) (bwb b29_7 hW) Try.underlying41 rfl (by kernel_rfl) rfl,
  fun f s W hW l m n p a => opd (args := #[.agg #[.int .i64 0, .slice (some ⟨(s6 16), 0, none⟩) (4) (4), .int .i64 (60 + v2), .slice (some ⟨(s7 5), 0, none⟩) (2) (2), .slice (some ⟨(s7 6), 0, none⟩) (2) (2), .int .i64 10, .bool true]]) rfl rfl (by simp [go_sem, a.e 98 (l 2 rfl)]) (armBlank_any _ _ _ _ _ _ (⟨0, [150 + v0, 120 + v1, 150 + v0, 120 + v1], 60 + v2, [0, 0], [60, 60], 10, true⟩ : Bl) W (ii_block (xs := [150 + v0, 120 + v1, 150 + v0, 120 + v1]) (bwb b29_4 hW) rfl rfl) (ii_block (xs := [0, 0]) (bwb b29_5 hW) rfl rfl) (ii_block (xs := [60, 60]) (bwb b29_6 hW) rfl rfl) (show 4 ≤ 1000 by decide) (show 2 ≤ 1000 by decide) (show 2 ≤ 1000 by decide)) ((fun e W' h => by obtain ⟨v, e1, h1, h2⟩ := h; rw [hbk2] at h1; exact ⟨_, e1, h2, h1.low (Nat.zero_le _)⟩)),
  fun f s W hW l m n p a => opv rfl rfl (by simp [go_sem, a.e 6 k29_6, cl (bwb b29_3 hW) 0, cl (bwb b29_3 hW) 1]) rfl,
  fun f s W hW l m n p a => opv rfl rfl (by simp [go_sem, a.e 6 k29_6, cl (bwb b29_3 hW) 0, cl (bwb b29_3 hW) 1]) rfl,
  fun f s W hW l m n p a => by obtain ⟨g81', c84', g82', c85', g83', c86', d1, ⟨q87', q89', q88'⟩, ⟨q90', q92', q91'⟩, ⟨q93', q95', q94'⟩⟩ := (l 1 rfl); obtain ⟨g96', c99', g97', c100', g98', c101', d3, ⟨q102', q104', q103'⟩, ⟨q105', q107', q106'⟩, ⟨q108', q110', q109'⟩⟩ := (l 3 rfl); exact opd (args := #[.agg #[.int .i64 b1.tab, .slice (some ⟨g81', 0, none⟩) (b1.panels.length) c84', .int .i64 b1.height, .slice (some ⟨g82', 0, none⟩) (b1.top.length) c85', .slice (some ⟨g83', 0, none⟩) (b1.bottom.length) c86', .int .i64 b1.slot, .bool b1.isOpen], .agg #[.int .i64 b2.tab, .slice (some ⟨g96', 0, none⟩) (b2.panels.length) c99', .int .i64 b2.height, .slice (some ⟨g97', 0, none⟩) (b2.top.length) c100', .slice (some ⟨g98', 0, none⟩) (b2.bottom.length) c101', .int .i64 b2.slot, .bool b2.isOpen], .agg #[.int .i64 ka, .int .i64 kb], .agg #[.int .i64 ka, .int .i64 kb]]) rfl rfl (by simp [go_sem, a.e 97 d1, a.e 99 d3, a.e 100 (l 4 rfl), a.e 101 (l 5 rfl)]) (play_in (b := b1) (d := b2) (x1 := ka) (y1 := kb) (x2 := ka) (y2 := kb) (L := PL) W ⟨_, _, _, _, _, _, _, _, _, rfl, q87', q90', q93'⟩ ⟨_, _, _, _, _, _, _, _, _, rfl, q102', q105', q108'⟩ hck1 hck2 j1 j2 j3 j1 j2 j3 hPL) ((fun e W' h => by obtain ⟨x, e1, h1, h2⟩ := h; exact ⟨_, e1, h2, _, rfl, h1⟩)),
  fun f s W hW l m n p a => opv (v := (f 6)) rfl rfl (by simp [go_sem, (a.at' 102 rfl : p.tmps[102]?.getD undef = f 6)] <;> rfl) (l 6 rfl),
  fun f s W hW l m n p a => by obtain ⟨x7_0, d7, p7_0⟩ := (l 7 rfl); exact opv (v := x7_0) rfl rfl (by simp [go_sem, a.e 95 d7]) p7_0,
  fun f s W hW l m n p a => by obtain ⟨x7_0, d7, p7_0⟩ := (l 7 rfl); exact opv rfl rfl (by simp [go_sem, a.e 95 d7]) rfl,
  fun f s W hW l m n p a => opv (v := (f 8)) rfl rfl (by simp [go_sem, (a.at' 103 rfl : p.tmps[103]?.getD undef = f 8)] <;> rfl) (l 8 rfl),
  fun f s W hW l m n p a => opv rfl rfl (by simp [go_sem, a.e 104 (l 9 rfl)]) rfl, trivial⟩ ?_
 intro f30 s30 W30 hB30 g30 hg30 z30
 have q114' := (q78'.below hB30.below)
 have q115' := (q79'.below hB30.below)
 have q116' := (q80'.below hB30.below)
 obtain ⟨a117', c118', r30_10, q119'⟩ := hB30.is 10
 have lim120' := Pp.lim q119'
 refine hK34 _ _ ?_
 have k30_13 := kt hg30 13 r30_10
 have k30_14 := kt hg30 14 (hB30.is 11)
 refine wp_seq_k fun K35 hK35 => ?_
 refine wp_seq_k fun K36 hK36 => ?_
 as_aux_lemma =>
 refine ry 7 [(105, 0), (106, 1), (107, 2), (108, 3), (109, 4), (110, 5), (111, 6)] [[], [0], [1], [2], [2, 3], [2, 4], [2, 5]] (rel [iI 0, iB false, iB false, is (.slice a117' (PL.length) c118'), iI ((PL.length : Int)), iB false, iB false])
  ⟨fun f s W hW l m n p a => opm (a.v 14 k30_14),
  fun f s W hW l m n p a => opv rfl rfl (by simp [go_sem, a.e 105 (l 0 rfl)]) rfl,
  fun f s W hW l m n p a => opm (a.v 106 (l 1 rfl)),
  fun f s W hW l m n p a => osure rfl rfl (a.says (d := 107) rfl rfl (l 2 rfl)) (gv (by simp [go_sem, a.e 13 k30_13]) rfl),
  fun f s W hW l m n p a => osure rfl rfl (a.says (d := 107) rfl rfl (l 2 rfl)) (gv (by simp [go_sem, a.e 108 (l 3 rfl)]) rfl),
  fun f s W hW l m n p a => osure rfl rfl (a.says (d := 107) rfl rfl (l 2 rfl)) (gv (by simp [go_sem, a.e 109 (l 4 rfl), hd2]) rfl),
  fun f s W hW l m n p a => opk (c := false) rfl rfl (fun _ => by simp [go_sem, a.e 107 (l 2 rfl), a.e 110 (l 5 rfl)]) (fun h => absurd h (by decide)), trivial⟩ ?_
 intro f31 s31 W31 hB31 g31 hg31 z31
 have q121' := (q114'.below hB31.below)
 have q122' := (q115'.below hB31.below)
 have q123' := (q116'.below hB31.below)
 have q124' := (q119'.bw hB31)
 refine hK36 _ _ ?_
 have k31_111 := kt hg31 111 (hB31.is 6)
 obtain ⟨bq, oq, hab⟩ := q124'.at' (by omega)
 refine wp_cond_false ((fr_eval rfl).trans k31_111) ?_
 refine wp_skip ?_
 refine hK35 _ _ ?_
 refine wp_seq_k fun K38 hK38 => ?_
 refine wp_seq_k fun K39 hK39 => ?_
 as_aux_lemma =>
 refine ry 1 [(15, 0)] [[]] (rel [iI 0])
  ⟨fun f s W hW l m n p a => opz, trivial⟩ ?_
 intro f32 s32 W32 hB32 g32 hg32 z32
 have fB32 := hB32.f (hB31.f (hB30.f (hB29.f (hB28.f fB27))))
 have b32_0 := hB32.b (hB31.b (hB30.b (hB29.b (hB28.b b27_0))))
 have b32_1 := hB32.b (hB31.b (hB30.b (hB29.b (hB28.b b27_1))))
 have b32_2 := hB32.b (hB31.b (hB30.b (hB29.b (hB28.b b27_2))))
 have b32_3 := hB32.b (hB31.b (hB30.b b29_3))
 have b32_4 := hB32.b (hB31.b (hB30.b b29_4))
 have b32_5 := hB32.b (hB31.b (hB30.b b29_5))
 have b32_6 := hB32.b (hB31.b (hB30.b b29_6))
 have b32_7 := hB32.b (hB31.b (hB30.b b29_7))
 have b32_8 := hB32.b (hB31.b (hB30.b b29_8))
 have q125' := (q121'.below hB32.below)
 have q126' := (q122'.below hB32.below)
 have q127' := (q123'.below hB32.below)
 have q128' := (q124'.bw hB32)
 refine hK39 _ _ ?_
 have k32_3 := kt hg32 3 (kt hg31 3 (kt hg30 3 (kt hg29 3 (kt hg28 3 (kt hg26 3 (kt hg25 3 (kt hg24 3 (kt hg22 3 (kt hg21 3 (kt hg20 3 (kt hg18 3 (kt hg17 3 (kt hg16 3 (kt hg14 3 (kt hg13 3 (kt hg12 3 (kt hg11 3 k9_3)))))))))))))))))
 have k32_4 := kt hg32 4 (kt hg31 4 (kt hg30 4 (kt hg29 4 (kt hg28 4 (kt hg26 4 (kt hg25 4 (kt hg24 4 (kt hg22 4 (kt hg21 4 (kt hg20 4 (kt hg18 4 (kt hg17 4 (kt hg16 4 (kt hg14 4 (kt hg13 4 (kt hg12 4 (kt hg11 4 (kt hg9 4 (kt hg7 4 (kt hg6 4 (kt hg5 4 (kt hg4 4 (ku hg3 4 (kt hg2 4 (kt hg1 4 (hB1.is 2))))))))))))))))))))))))))
 have k32_6 := kt hg32 6 (kt hg31 6 (kt hg30 6 k29_6))
 have k32_9 := kt hg32 9 (kt hg31 9 (kt hg30 9 k29_9))
 have k32_10 := kt hg32 10 (kt hg31 10 (kt hg30 10 k29_10))
 have k32_11 := kt hg32 11 (kt hg31 11 (kt hg30 11 (kt hg29 11 (kt hg28 11 (kt hg26 11 k25_11)))))
 have k32_13 := kt hg32 13 (kt hg31 13 k30_13)
 have k32_15 := kt hg32 15 (hB32.is 0)
 refine wp_block ?_
 refine wp_loop_n (fun m_ a_ W_ => ∃ g_ : Nat → Value, a_ = fr 207 g_ ∧ (∃ j : Nat, m_ = 4 - j ∧ g_ 3 = .pointer (some ⟨(s1 1), 0, none⟩) ∧ g_ 4 = .bool false ∧ g_ 6 = .pointer (some ⟨(s2 10), 0, none⟩) ∧ g_ 9 = .pointer (some ⟨(s7 8), 0, none⟩) ∧ g_ 10 = .pointer (some ⟨(s9 2), 0, none⟩) ∧ g_ 11 = .int .i64 mo ∧ g_ 13 = .slice a117' (PL.length) c118' ∧ g_ 15 = .int .i64 ((j : Int)) ∧ Below w.heap.size w W_ ∧ W32.heap.size ≤ W_.heap.size ∧ W_.heap[(s1 0)]? = some (.cells #[.slice ap np cp, .slice af nf cf, .slice ay nb cb] 60 (0, 0)) ∧ W_.heap[(s1 1)]? = some (.cells #[.int .u8 v0, .int .u8 v1, .int .u8 v2, .int .u8 v3] 22 (0, 0)) ∧ W_.heap[(s2 9)]? = some (.cells #[.int .i64 m1, .int .i64 m2] 62 (0, 0)) ∧ W_.heap[(s2 10)]? = some (.cells #[.int .i64 ka, .int .i64 kb] 62 (0, 0)) ∧ W_.heap[(s6 16)]? = some (.cells #[.int .i64 (150 + v0), .int .i64 (120 + v1), .int .i64 (150 + v0), .int .i64 (120 + v1)] 3 (0, 0)) ∧ W_.heap[(s7 5)]? = some (.cells #[.int .i64 0, .int .i64 0] 3 (0, 0)) ∧ W_.heap[(s7 6)]? = some (.cells #[.int .i64 60, .int .i64 60] 3 (0, 0)) ∧ W_.heap[(s7 8)]? = some (.cells #[.int .i64 0, .slice (some ⟨(s6 16), 0, none⟩) (4) (4), .int .i64 (60 + v2), .slice (some ⟨(s7 5), 0, none⟩) (2) (2), .slice (some ⟨(s7 6), 0, none⟩) (2) (2), .int .i64 10, .bool true] 41 (0, 0)) ∧ W_.heap[(s9 2)]? = some (.cells #[.int .i64 0, .slice (some ⟨g9', 0, none⟩) 4 c12', .int .i64 (60 + v2), .slice (some ⟨g10', 0, none⟩) 2 c13', .slice (some ⟨g11', 0, none⟩) 2 c14', .int .i64 10, .bool true] 41 (0, 0)) ∧ OwnI w.heap.size ([0, 0]) g10' c13' W_ ∧ OwnI w.heap.size ([60, 60]) g11' c14' W_ ∧ OwnI w.heap.size ([(150 + v0) + mo, (120 + v1) + mo, (150 + v0) + mo, (120 + v1) + mo]) g9' c12' W_ ∧ Pp W_ a117' PL.length c118' PL ∧ (j ≤ 4))) ⟨_, g32, rfl, 0, rfl, k32_3, k32_4, k32_6, k32_9, k32_10, k32_11, k32_13, k32_15.trans (by rfl), fB32, Nat.le_refl _, b32_0, b32_1, b32_2, b32_3, b32_4, b32_5, b32_6, b32_7, b32_8, q125', q126', q127', q128', (by omega)⟩ ?_
 rintro _ _ W_129 ⟨g_129, rfl, j, rfl, k_129_3, k_129_4, k_129_6, k_129_9, k_129_10, k_129_11, k_129_13, k_129_15, fB_129, z_129, b_129_0, b_129_1, b_129_2, b_129_3, b_129_4, b_129_5, b_129_6, b_129_7, b_129_8, q130', q131', q132', q133', lj0⟩
 refine wp_seq_k fun K40 hK40 => ?_
 refine wp_seq_k fun K41 hK41 => ?_
 as_aux_lemma =>
 refine ry 2 [(112, 0), (113, 1)] [[], [0]] (rel [iI ((j : Int)), iB (decide ((j : Int) < 4))])
  ⟨fun f s W hW l m n p a => opm (a.v 15 k_129_15),
  fun f s W hW l m n p a => opv rfl rfl (by simp [go_sem, a.e 112 (l 0 rfl)]) rfl, trivial⟩ ?_
 intro f33 s33 W33 hB33 g33 hg33 z33
 have fB33 := hB33.f fB_129
 have b33_1 := hB33.b b_129_1
 have b33_3 := hB33.b b_129_3
 have b33_4 := hB33.b b_129_4
 have b33_5 := hB33.b b_129_5
 have b33_6 := hB33.b b_129_6
 have b33_7 := hB33.b b_129_7
 have b33_8 := hB33.b b_129_8
 have q134' := (q130'.below hB33.below)
 have q135' := (q131'.below hB33.below)
 have q136' := (q132'.below hB33.below)
 have q137' := (q133'.bw hB33)
 refine hK41 _ _ ?_
 have k33_3 := kt hg33 3 k_129_3
 have k33_6 := kt hg33 6 k_129_6
 have k33_9 := kt hg33 9 k_129_9
 have k33_10 := kt hg33 10 k_129_10
 have k33_11 := kt hg33 11 k_129_11
 have k33_13 := kt hg33 13 k_129_13
 have k33_15 := kt hg33 15 k_129_15
 have k33_113 := kt hg33 113 (hB33.is 1)
 refine wp_cond_split (t := decide ((j : Int) < 4)) ((fr_eval rfl).trans k33_113) (fun hc42 => ?_) (fun hc42 => ?_)
 ·
  have hc42' := hc42; try simp only [ba] at hc42'
  have hj4 : j < 4 := by omega
  refine wp_skip ?_
  refine hK40 _ _ ?_
  refine wp_seq_k fun K43 hK43 => ?_
  refine wp_block ?_
  refine wp_seq_k fun K44 hK44 => ?_
  as_aux_lemma =>
  refine ry 34 [(116, 0), (117, 1), (118, 2), (119, 3), (120, 4), (121, 5), (122, 6), (123, 7), (124, 8), (125, 9), (126, 10), (127, 11), (128, 12), (129, 13), (130, 14), (131, 15), (132, 16), (133, 17), (134, 18), (135, 19), (136, 20), (137, 21), (138, 22), (139, 23), (140, 24), (141, 25), (142, 26), (143, 27), (144, 28), (145, 29), (146, 30), (147, 31), (148, 32), (149, 33)] [[], [], [0, 1], [2], [3], [], [5], [], [7], [8], [6, 9], [4, 10], [11], [12], [12], [12, 13, 14], [12, 15], [12, 16], [12], [12, 18], [12], [12, 20], [12, 21], [12, 19, 22], [12, 17, 23], [12, 24], [25], [26], [26], [26, 27, 28], [26, 29], [26, 30], [26, 31], [26, 32]] (rel [is (.slice a117' (PL.length) c118'), iI ((j : Int)), is (.pointer (some ⟨bq, oq + j * 2, none⟩)), is (.pointer (some ⟨bq, oq + j * 2, none⟩)), iI P1, iI mo, iI (1000 * mo), is (.pointer (some ⟨(s2 10), 1, none⟩)), iI kb, iI (2 * kb), iI ((1000 * mo) - (2 * kb)), iB false, iB false, is (.slice a117' (PL.length) c118'), iI ((j : Int)), is (.pointer (some ⟨bq, oq + j * 2, none⟩)), is (.pointer (some ⟨bq, oq + j * 2 + 1, none⟩)), iI P2, iI mo, iI (1000 * mo), is (.pointer (some ⟨(s2 10), 0, none⟩)), iI ka, iI (2 * ka), iI ((1000 * mo) - (2 * ka)), iB false, iB false, iB false, is (.slice a117' (PL.length) c118'), iI ((j : Int)), is (.pointer (some ⟨bq, oq + j * 2, none⟩)), is (.pointer (some ⟨bq, oq + j * 2, none⟩)), iI P1, iB false, iB false])
   ⟨fun f s W hW l m n p a => opm (a.v 13 k33_13),
  fun f s W hW l m n p a => opm (a.v 15 k33_15),
  fun f s W hW l m n p a => by have lij_ := Nat.not_le.2 (show j < PL.length by omega); have liz_ : (j : Int) < (PL.length : Int) := (by omega); exact opv rfl rfl (by simp [go_sem, a.e 116 (l 0 rfl), a.e 117 (l 1 rfl), hab, lij_, liz_]) rfl,
  fun f s W hW l m n p a => opv rfl rfl (by simp [go_sem, a.e 118 (l 2 rfl)]) rfl,
  fun f s W hW l m n p a => by have cu := pp_nth (i := j) (q137'.below hW (Nat.le_refl _)) hab (by omega); rw [hPL4 j (by omega)] at cu; have cx_ : W.cell? ⟨bq, oq + j * 2, none⟩ = some (.int .i64 P1) := cu.1; exact opv rfl rfl (by simp [go_sem, a.e 119 (l 3 rfl), cx_]) rfl,
  fun f s W hW l m n p a => opm (a.v 11 k33_11),
  fun f s W hW l m n p a => opv rfl rfl (by simp [go_sem, a.e 121 (l 5 rfl), IntWalk.i64_in (1000 * mo) (by omega)]) rfl,
  fun f s W hW l m n p a => opv rfl rfl (by simp [go_sem, a.e 6 k33_6]) rfl,
  fun f s W hW l m n p a => opv rfl rfl (by simp [go_sem, a.e 123 (l 7 rfl), cl (bwb b33_3 hW) 1]) rfl,
  fun f s W hW l m n p a => opv rfl rfl (by simp [go_sem, a.e 124 (l 8 rfl), IntWalk.i64_in (2 * kb) (by omega)]) rfl,
  fun f s W hW l m n p a => opv rfl rfl (by simp [go_sem, a.e 122 (l 6 rfl), a.e 125 (l 9 rfl), IntWalk.i64_in ((1000 * mo) - (2 * kb)) (by omega)]) rfl,
  fun f s W hW l m n p a => opv rfl rfl (by simp [go_sem, a.e 120 (l 4 rfl), a.e 126 (l 10 rfl), hd3]) rfl,
  fun f s W hW l m n p a => opm (a.v 127 (l 11 rfl)),
  fun f s W hW l m n p a => osure rfl rfl (a.says (d := 128) rfl rfl (l 12 rfl)) (gv (by simp [go_sem, a.e 13 k33_13]) rfl),
  fun f s W hW l m n p a => osure rfl rfl (a.says (d := 128) rfl rfl (l 12 rfl)) (gv (by simp [go_sem, a.e 15 k33_15]) rfl),
  fun f s W hW l m n p a => osure rfl rfl (a.says (d := 128) rfl rfl (l 12 rfl)) (by have lij_ := Nat.not_le.2 (show j < PL.length by omega); have liz_ : (j : Int) < (PL.length : Int) := (by omega); exact gv (by simp [go_sem, a.e 129 (l 13 rfl), a.e 130 (l 14 rfl), hab, lij_, liz_]) rfl),
  fun f s W hW l m n p a => osure rfl rfl (a.says (d := 128) rfl rfl (l 12 rfl)) (gv (by simp [go_sem, a.e 131 (l 15 rfl)]) rfl),
  fun f s W hW l m n p a => osure rfl rfl (a.says (d := 128) rfl rfl (l 12 rfl)) (by have cu := pp_nth (i := j) (q137'.below hW (Nat.le_refl _)) hab (by omega); rw [hPL4 j (by omega)] at cu; have cx_ : W.cell? ⟨bq, oq + j * 2 + 1, none⟩ = some (.int .i64 P2) := cu.2; exact gv (by simp [go_sem, a.e 132 (l 16 rfl), cx_]) rfl),
  fun f s W hW l m n p a => osure rfl rfl (a.says (d := 128) rfl rfl (l 12 rfl)) (gv (by simp [go_sem, a.e 11 k33_11]) rfl),
  fun f s W hW l m n p a => osure rfl rfl (a.says (d := 128) rfl rfl (l 12 rfl)) (gv (by simp [go_sem, a.e 134 (l 18 rfl), IntWalk.i64_in (1000 * mo) (by omega)]) rfl),
  fun f s W hW l m n p a => osure rfl rfl (a.says (d := 128) rfl rfl (l 12 rfl)) (gv (by simp [go_sem, a.e 6 k33_6]) rfl),
  fun f s W hW l m n p a => osure rfl rfl (a.says (d := 128) rfl rfl (l 12 rfl)) (gv (by simp [go_sem, a.e 136 (l 20 rfl), cl (bwb b33_3 hW) 0]) rfl),
  fun f s W hW l m n p a => osure rfl rfl (a.says (d := 128) rfl rfl (l 12 rfl)) (gv (by simp [go_sem, a.e 137 (l 21 rfl), IntWalk.i64_in (2 * ka) (by omega)]) rfl),
  fun f s W hW l m n p a => osure rfl rfl (a.says (d := 128) rfl rfl (l 12 rfl)) (gv (by simp [go_sem, a.e 135 (l 19 rfl), a.e 138 (l 22 rfl), IntWalk.i64_in ((1000 * mo) - (2 * ka)) (by omega)]) rfl),
  fun f s W hW l m n p a => osure rfl rfl (a.says (d := 128) rfl rfl (l 12 rfl)) (gv (by simp [go_sem, a.e 133 (l 17 rfl), a.e 139 (l 23 rfl), hd4]) rfl),
  fun f s W hW l m n p a => opk (c := false) rfl rfl (fun _ => by simp [go_sem, a.e 128 (l 12 rfl), a.e 140 (l 24 rfl)]) (fun h => absurd h (by decide)),
  fun f s W hW l m n p a => opm (a.v 141 (l 25 rfl)),
  fun f s W hW l m n p a => osure rfl rfl (a.says (d := 142) rfl rfl (l 26 rfl)) (gv (by simp [go_sem, a.e 13 k33_13]) rfl),
  fun f s W hW l m n p a => osure rfl rfl (a.says (d := 142) rfl rfl (l 26 rfl)) (gv (by simp [go_sem, a.e 15 k33_15]) rfl),
  fun f s W hW l m n p a => osure rfl rfl (a.says (d := 142) rfl rfl (l 26 rfl)) (by have lij_ := Nat.not_le.2 (show j < PL.length by omega); have liz_ : (j : Int) < (PL.length : Int) := (by omega); exact gv (by simp [go_sem, a.e 143 (l 27 rfl), a.e 144 (l 28 rfl), hab, lij_, liz_]) rfl),
  fun f s W hW l m n p a => osure rfl rfl (a.says (d := 142) rfl rfl (l 26 rfl)) (gv (by simp [go_sem, a.e 145 (l 29 rfl)]) rfl),
  fun f s W hW l m n p a => osure rfl rfl (a.says (d := 142) rfl rfl (l 26 rfl)) (by have cu := pp_nth (i := j) (q137'.below hW (Nat.le_refl _)) hab (by omega); rw [hPL4 j (by omega)] at cu; have cx_ : W.cell? ⟨bq, oq + j * 2, none⟩ = some (.int .i64 P1) := cu.1; exact gv (by simp [go_sem, a.e 146 (l 30 rfl), cx_]) rfl),
  fun f s W hW l m n p a => osure rfl rfl (a.says (d := 142) rfl rfl (l 26 rfl)) (gv (by simp [go_sem, a.e 147 (l 31 rfl), hd5]) rfl),
  fun f s W hW l m n p a => opk (c := false) rfl rfl (fun _ => by simp [go_sem, a.e 142 (l 26 rfl), a.e 148 (l 32 rfl)]) (fun h => absurd h (by decide)), trivial⟩ ?_
  intro f34 s34 W34 hB34 g34 hg34 z34
  have q138' := (q134'.below hB34.below)
  have q139' := (q135'.below hB34.below)
  have q140' := (q136'.below hB34.below)
  have q141' := (q137'.bw hB34)
  refine hK44 _ _ ?_
  have k34_15 := kt hg34 15 k33_15
  have k34_149 := kt hg34 149 (hB34.is 33)
  refine wp_cond_false ((fr_eval rfl).trans k34_149) ?_
  refine wp_skip ?_
  refine ibn ?_
  refine hK43 _ _ ?_
  as_aux_lemma =>
  refine ry 3 [(114, 0), (115, 1), (15, 2)] [[], [0], [0, 1]] (rel [iI ((j : Int)), iI ((j : Int) + 1), iI ((j : Int) + 1)])
   ⟨fun f s W hW l m n p a => opm (a.v 15 ((n 2 15 rfl rfl).trans k34_15)),
  fun f s W hW l m n p a => opv rfl rfl (by simp [go_sem, a.e 114 (l 0 rfl), IntWalk.i64_in ((j : Int) + 1) (by omega)]) rfl,
  fun f s W hW l m n p a => opm (a.v 115 (l 1 rfl)), trivial⟩ ?_
  intro f35 s35 W35 hB35 g35 hg35 z35
  have fB35 := hB35.f (hB34.f fB33)
  have b35_0 := hB35.b (hB34.b (hB33.b b_129_0))
  have b35_1 := hB35.b (hB34.b b33_1)
  have b35_2 := hB35.b (hB34.b (hB33.b b_129_2))
  have b35_3 := hB35.b (hB34.b b33_3)
  have b35_4 := hB35.b (hB34.b b33_4)
  have b35_5 := hB35.b (hB34.b b33_5)
  have b35_6 := hB35.b (hB34.b b33_6)
  have b35_7 := hB35.b (hB34.b b33_7)
  have b35_8 := hB35.b (hB34.b b33_8)
  have q142' := (q138'.below hB35.below)
  have q143' := (q139'.below hB35.below)
  have q144' := (q140'.below hB35.below)
  have q145' := (q141'.bw hB35)
  refine wpe ?_
  have k35_3 := kt hg35 3 (kt hg34 3 k33_3)
  have k35_4 := kt hg35 4 (kt hg34 4 (kt hg33 4 k_129_4))
  have k35_6 := kt hg35 6 (kt hg34 6 k33_6)
  have k35_9 := kt hg35 9 (kt hg34 9 k33_9)
  have k35_10 := kt hg35 10 (kt hg34 10 k33_10)
  have k35_11 := kt hg35 11 (kt hg34 11 k33_11)
  have k35_13 := kt hg35 13 (kt hg34 13 k33_13)
  have k35_15 := kt hg35 15 (hB35.is 2)
  refine then_normal ?_
  exact ⟨_, by omega, g35, rfl, j + 1, rfl, k35_3, k35_4, k35_6, k35_9, k35_10, k35_11, k35_13, k35_15.trans (by go_num), fB35, (by omega), b35_0, b35_1, b35_2, b35_3, b35_4, b35_5, b35_6, b35_7, b35_8, q142', q143', q144', q145', (by omega)⟩
 ·
  have hc42' := hc42; try simp only [ba] at hc42'
  refine wp_exit ?_
  refine then_exit ?_
  refine then_exit ?_
  refine inBlock_at ?_
  refine hK38 _ _ ?_
  refine wp_seq_k fun K46 hK46 => ?_
  as_aux_lemma =>
  refine rz 14 [(150, 0), (151, 1), (152, 2), (153, 3), (154, 4), (155, 5), (156, 6), (157, 7), (158, 8), (159, 9), (160, 10), (161, 11), (162, 12), (16, 13)] [[], [0], [1], [2], [], [4], [5], [6], [], [8], [9], [10], [3, 7, 11], [0, 1, 2, 3, 4, 5, 6, 7, 8, 9, 10, 11, 12]] (rel [is (.pointer (some ⟨(s1 1), 0, none⟩)), is (.int .u8 v0), iI v0, iI (100 + v0), is (.pointer (some ⟨(s1 1), 1, none⟩)), is (.int .u8 v1), iI v1, iI (100 + v1), is (.pointer (some ⟨(s1 1), 2, none⟩)), is (.int .u8 v2), iI v2, iI (50 + v2), row 12 3 #[.int .i64 (100 + v0), .int .i64 (100 + v1), .int .i64 (50 + v2)] 3, isS fun s => .slice (some ⟨(s 12), 0, none⟩) (3) (3)])
   ⟨is_k, is_k, is_k, is_k, is_k, is_k, is_k, is_k, is_k, is_k, is_k, is_k, row_k, isS_k fun s s' e => by rw [e 12 (by simp)], trivial⟩
   ⟨fun f s W hW l m n p a => opv rfl rfl (by simp [go_sem, a.e 3 k33_3]) rfl,
  fun f s W hW l m n p a => opv rfl rfl (by simp [go_sem, a.e 150 (l 0 rfl), cl (bwb b33_1 hW) 0]) rfl,
  fun f s W hW l m n p a => by have cv_ := IntWalk.i64_in (v0) (by omega); exact opv rfl rfl (by simp [go_sem, a.e 151 (l 1 rfl), cv_]) rfl,
  fun f s W hW l m n p a => opv rfl rfl (by simp [go_sem, a.e 152 (l 2 rfl), IntWalk.i64_in (100 + v0) (by omega)]) rfl,
  fun f s W hW l m n p a => opv rfl rfl (by simp [go_sem, a.e 3 k33_3]) rfl,
  fun f s W hW l m n p a => opv rfl rfl (by simp [go_sem, a.e 154 (l 4 rfl), cl (bwb b33_1 hW) 1]) rfl,
  fun f s W hW l m n p a => by have cv_ := IntWalk.i64_in (v1) (by omega); exact opv rfl rfl (by simp [go_sem, a.e 155 (l 5 rfl), cv_]) rfl,
  fun f s W hW l m n p a => opv rfl rfl (by simp [go_sem, a.e 156 (l 6 rfl), IntWalk.i64_in (100 + v1) (by omega)]) rfl,
  fun f s W hW l m n p a => opv rfl rfl (by simp [go_sem, a.e 3 k33_3]) rfl,
  fun f s W hW l m n p a => opv rfl rfl (by simp [go_sem, a.e 158 (l 8 rfl), cl (bwb b33_1 hW) 2]) rfl,
  fun f s W hW l m n p a => by have cv_ := IntWalk.i64_in (v2) (by omega); exact opv rfl rfl (by simp [go_sem, a.e 159 (l 9 rfl), cv_]) rfl,
  fun f s W hW l m n p a => opv rfl rfl (by simp [go_sem, a.e 160 (l 10 rfl), IntWalk.i64_in (50 + v2) (by omega)]) rfl,
  fun f s W hW l m n p a => opr rfl rfl (by simp [go_sem, a.e 153 (l 3 rfl), a.e 157 (l 7 rfl), a.e 161 (l 11 rfl)]),
  fun f s W hW l m n p a => opv rfl rfl (by simp [go_sem, a.e 162 (l 12 rfl).1, upd]) rfl, trivial⟩ ?_
  intro f36 s36 W36 hB36 g36 hg36 z36
  have b36_3 := hB36.b b33_3
  have b36_4 := hB36.b b33_4
  have b36_5 := hB36.b b33_5
  have b36_6 := hB36.b b33_6
  have b36_7 := hB36.b b33_7
  have q146' := (q134'.below hB36.below)
  have q147' := (q135'.below hB36.below)
  have q148' := (q136'.below hB36.below)
  have q149' := (q137'.bw hB36)
  obtain ⟨r36_12, br36_12⟩ := hB36.is 12
  have lr36_12 := hB36.lr 12 br36_12
  refine hK46 _ _ ?_
  have k36_6 := kt hg36 6 k33_6
  have k36_9 := kt hg36 9 k33_9
  have k36_16 := kt hg36 16 (hB36.is 13)
  refine wp_seq_k fun K47 hK47 => ?_
  as_aux_lemma =>
  refine rz 12 [(164, 0), (165, 1), (166, 2), (167, 3), (168, 4), (163, 5), (169, 6), (170, 7), (171, 8), (17, 9), (18, 10), (19, 11)] [[], [], [], [2], [0, 1, 3], [4], [5], [5], [5], [6], [7], [8]] (rel [is (.agg #[.int .i64 0, .slice (some ⟨(s6 16), 0, none⟩) (4) (4), .int .i64 (60 + v2), .slice (some ⟨(s7 5), 0, none⟩) (2) (2), .slice (some ⟨(s7 6), 0, none⟩) (2) (2), .int .i64 10, .bool true]), is (.agg #[.int .i64 ka, .int .i64 kb]), is (.slice (some ⟨(s36 12), 0, none⟩) (3) (3)), fun v s W => OwI (s 3) ([100 + v0, 100 + v1, 50 + v2]) 3 v W, is (.tuple #[.bool sv, .bool pv, .int .i64 0]), is (.tuple #[.bool sv, .bool pv, .int .i64 0]), iB sv, iB pv, iI 0, iB sv, iB pv, iI 0])
   ⟨is_k, is_k, is_k, ⟨fun v k W W' hb h => h.below hb, fun v s s' W e h => by have h' : OwI (s 3) ([100 + v0, 100 + v1, 50 + v2]) 3 v W := h; show OwI (s' 3) ([100 + v0, 100 + v1, 50 + v2]) 3 v W; rw [← e 3 (by simp)]; exact h'⟩, is_k, is_k, is_k, is_k, is_k, is_k, is_k, is_k, trivial⟩
   ⟨fun f s W hW l m n p a => opl rfl rfl rfl (a.v 9 k36_9) (bwb b36_7 hW) Try.underlying41 rfl (by kernel_rfl) rfl,
  fun f s W hW l m n p a => opv rfl rfl (by simp [go_sem, a.e 6 k36_6, cl (bwb b36_3 hW) 0, cl (bwb b36_3 hW) 1]) rfl,
  fun f s W hW l m n p a => opm (a.v 16 k36_16),
  fun f s W hW l m n p a => opd (args := #[.slice (some ⟨(s36 12), 0, none⟩) (3) (3)]) rfl rfl (by simp [go_sem, a.e 166 (l 2 rfl)]) (armInts_own _ 3 3 [100 + v0, 100 + v1, 50 + v2] W (ii_block (xs := [100 + v0, 100 + v1, 50 + v2]) (bwb br36_12 hW) rfl rfl) (by decide) (by decide)) (fun e W' h => by obtain ⟨v, e1, h1, h2⟩ := h; exact ⟨v, e1, h2, (show OwI (upd s 3 W.heap.size 3) ([100 + v0, 100 + v1, 50 + v2]) 3 v W' from by rw [upd_at]; exact h1)⟩),
  fun f s W hW l m n p a => by obtain ⟨g150', c151', d3, q152'⟩ := (l 3 rfl); exact opc (args := #[.agg #[.int .i64 0, .slice (some ⟨(s6 16), 0, none⟩) (4) (4), .int .i64 (60 + v2), .slice (some ⟨(s7 5), 0, none⟩) (2) (2), .slice (some ⟨(s7 6), 0, none⟩) (2) (2), .int .i64 10, .bool true], .agg #[.int .i64 ka, .int .i64 kb], .slice (some ⟨g150', 0, none⟩) 3 c151']) rfl rfl (by simp [go_sem, a.e 164 (l 0 rfl), a.e 165 (l 1 rfl), a.e 167 d3]) (holds_in (b := (⟨0, [150 + v0, 120 + v1, 150 + v0, 120 + v1], 60 + v2, [0, 0], [60, 60], 10, true⟩ : Bl)) (lo := ka) (hi := kb) W ⟨_, _, _, _, _, _, _, _, _, rfl, (ii_block (xs := [150 + v0, 120 + v1, 150 + v0, 120 + v1]) (bwb b36_4 hW) rfl rfl), (ii_block (xs := [0, 0]) (bwb b36_5 hW) rfl rfl), (ii_block (xs := [60, 60]) (bwb b36_6 hW) rfl rfl)⟩ q152'.ii (hbk2 ▸ hck2) j1 j2 j3 gx0 gx1 gx2 (hbk2 ▸ hs2) (hbk2 ▸ hp2)),
  fun f s W hW l m n p a => opm (a.v 168 (l 4 rfl)),
  fun f s W hW l m n p a => opv rfl rfl (by simp [go_sem, a.e 163 (l 5 rfl)]) rfl,
  fun f s W hW l m n p a => opv rfl rfl (by simp [go_sem, a.e 163 (l 5 rfl)]) rfl,
  fun f s W hW l m n p a => opv rfl rfl (by simp [go_sem, a.e 163 (l 5 rfl)]) rfl,
  fun f s W hW l m n p a => opm (a.v 169 (l 6 rfl)),
  fun f s W hW l m n p a => opm (a.v 170 (l 7 rfl)),
  fun f s W hW l m n p a => opm (a.v 171 (l 8 rfl)), trivial⟩ ?_
  intro f37 s37 W37 hB37 g37 hg37 z37
  have b37_3 := hB37.b b36_3
  have b37_8 := hB37.b (hB36.b b33_8)
  have b37_9 := hB37.b br36_12
  have q153' := (q146'.below hB37.below)
  have q154' := (q147'.below hB37.below)
  have q155' := (q148'.below hB37.below)
  have q156' := (q149'.bw hB37)
  refine hK47 _ _ ?_
  have k37_6 := kt hg37 6 k36_6
  have k37_10 := kt hg37 10 (kt hg36 10 k33_10)
  have k37_16 := kt hg37 16 k36_16
  refine wp_seq_k fun K48 hK48 => ?_
  as_aux_lemma =>
  refine rz 12 [(173, 0), (174, 1), (175, 2), (176, 3), (177, 4), (172, 5), (178, 6), (179, 7), (180, 8), (20, 9), (21, 10), (22, 11)] [[], [], [], [2], [0, 1, 3], [4], [5], [5], [5], [6], [7], [8]] (rel [is (.agg #[.int .i64 0, .slice (some ⟨g9', 0, none⟩) 4 c12', .int .i64 (60 + v2), .slice (some ⟨g10', 0, none⟩) 2 c13', .slice (some ⟨g11', 0, none⟩) 2 c14', .int .i64 10, .bool true]), is (.agg #[.int .i64 ka, .int .i64 kb]), is (.slice (some ⟨(s36 12), 0, none⟩) (3) (3)), fun v s W => OwI (s 3) ([100 + v0, 100 + v1, 50 + v2]) 3 v W, is (.tuple #[.bool av, .bool qv, .int .i64 0]), is (.tuple #[.bool av, .bool qv, .int .i64 0]), iB av, iB qv, iI 0, iB av, iB qv, iI 0])
   ⟨is_k, is_k, is_k, ⟨fun v k W W' hb h => h.below hb, fun v s s' W e h => by have h' : OwI (s 3) ([100 + v0, 100 + v1, 50 + v2]) 3 v W := h; show OwI (s' 3) ([100 + v0, 100 + v1, 50 + v2]) 3 v W; rw [← e 3 (by simp)]; exact h'⟩, is_k, is_k, is_k, is_k, is_k, is_k, is_k, is_k, trivial⟩
   ⟨fun f s W hW l m n p a => opl rfl rfl rfl (a.v 10 k37_10) (bwb b37_8 hW) Try.underlying41 rfl (by kernel_rfl) rfl,
  fun f s W hW l m n p a => opv rfl rfl (by simp [go_sem, a.e 6 k37_6, cl (bwb b37_3 hW) 0, cl (bwb b37_3 hW) 1]) rfl,
  fun f s W hW l m n p a => opm (a.v 16 k37_16),
  fun f s W hW l m n p a => opd (args := #[.slice (some ⟨(s36 12), 0, none⟩) (3) (3)]) rfl rfl (by simp [go_sem, a.e 175 (l 2 rfl)]) (armInts_own _ 3 3 [100 + v0, 100 + v1, 50 + v2] W (ii_block (xs := [100 + v0, 100 + v1, 50 + v2]) (bwb b37_9 hW) rfl rfl) (by decide) (by decide)) (fun e W' h => by obtain ⟨v, e1, h1, h2⟩ := h; exact ⟨v, e1, h2, (show OwI (upd s 3 W.heap.size 3) ([100 + v0, 100 + v1, 50 + v2]) 3 v W' from by rw [upd_at]; exact h1)⟩),
  fun f s W hW l m n p a => by obtain ⟨g157', c158', d3, q159'⟩ := (l 3 rfl); exact opc (args := #[.agg #[.int .i64 0, .slice (some ⟨g9', 0, none⟩) 4 c12', .int .i64 (60 + v2), .slice (some ⟨g10', 0, none⟩) 2 c13', .slice (some ⟨g11', 0, none⟩) 2 c14', .int .i64 10, .bool true], .agg #[.int .i64 ka, .int .i64 kb], .slice (some ⟨g157', 0, none⟩) 3 c158']) rfl rfl (by simp [go_sem, a.e 173 (l 0 rfl), a.e 174 (l 1 rfl), a.e 176 d3]) (holds_in (b := (⟨0, [(150 + v0) + mo, (120 + v1) + mo, (150 + v0) + mo, (120 + v1) + mo], 60 + v2, [0, 0], [60, 60], 10, true⟩ : Bl)) (lo := ka) (hi := kb) W ⟨_, _, _, _, _, _, _, _, _, rfl, ((q155'.below hW)).ii, ((q153'.below hW)).ii, ((q154'.below hW)).ii⟩ q159'.ii (hbk1 ▸ hck1) j1 j2 j3 gx0 gx1 gx2 (hbk1 ▸ hs1) (hbk1 ▸ hp1)),
  fun f s W hW l m n p a => opm (a.v 177 (l 4 rfl)),
  fun f s W hW l m n p a => opv rfl rfl (by simp [go_sem, a.e 172 (l 5 rfl)]) rfl,
  fun f s W hW l m n p a => opv rfl rfl (by simp [go_sem, a.e 172 (l 5 rfl)]) rfl,
  fun f s W hW l m n p a => opv rfl rfl (by simp [go_sem, a.e 172 (l 5 rfl)]) rfl,
  fun f s W hW l m n p a => opm (a.v 178 (l 6 rfl)),
  fun f s W hW l m n p a => opm (a.v 179 (l 7 rfl)),
  fun f s W hW l m n p a => opm (a.v 180 (l 8 rfl)), trivial⟩ ?_
  intro f38 s38 W38 hB38 g38 hg38 z38
  have fB38 := hB38.f (hB37.f (hB36.f fB33))
  have q160' := (q153'.below hB38.below)
  have q161' := (q154'.below hB38.below)
  have q162' := (q155'.below hB38.below)
  have q163' := (q156'.bw hB38)
  refine hK48 _ _ ?_
  have k38_17 := kt hg38 17 (kt hg37 17 (hB37.is 9))
  have k38_18 := kt hg38 18 (kt hg37 18 (hB37.is 10))
  have k38_19 := kt hg38 19 (kt hg37 19 (hB37.is 11))
  have k38_20 := kt hg38 20 (hB38.is 9)
  have k38_22 := kt hg38 22 (hB38.is 11)
  refine wp_seq_k fun K49 hK49 => ?_
  rcases Bool.eq_false_or_eq_true sv with hsv | hsv
  ·
   have hpv := hfp hsv
   have hav := hfa hsv
   have kz164 : g38 17 = .bool true := k38_17.trans (by rw [hsv])
   have kz165 : g38 18 = .bool true := k38_18.trans (by rw [hpv])
   have kz166 : g38 20 = .bool true := k38_20.trans (by rw [hav])
   as_aux_lemma =>
   refine ry 27 [(181, 0), (182, 1), (183, 2), (184, 3), (185, 4), (186, 5), (187, 6), (188, 7), (189, 8), (190, 9), (191, 10), (192, 11), (193, 12), (194, 13), (195, 14), (196, 15), (197, 16), (198, 17), (199, 18), (200, 19), (201, 20), (202, 21), (203, 22), (204, 23), (205, 24), (206, 25), (4, 26)] [[], [0], [1], [2], [2, 3], [2, 4], [5], [6], [6, 7], [6, 8], [9], [6, 9, 10], [6, 11], [12], [13], [13, 14], [13, 15], [16], [13, 16, 17], [13, 18], [19], [20], [20, 21], [22], [23], [23, 24], [25]] (rel [iI 0, iB true, iB true, iI 0, iB true, iB true, iB true, iB true, iB false, iB false, iB true, iB true, iB true, iB true, iB true, iB false, iB false, iB true, iB true, iB true, iB true, iB true, iB true, iB true, iB true, iB true, iB true])
    ⟨fun f s W hW l m n p a => opm (a.v 19 k38_19),
  fun f s W hW l m n p a => opv rfl rfl (by simp [go_sem, a.e 181 (l 0 rfl)]) rfl,
  fun f s W hW l m n p a => opm (a.v 182 (l 1 rfl)),
  fun f s W hW l m n p a => osure rfl rfl (a.says (d := 183) rfl rfl (l 2 rfl)) (gv (by simp [go_sem, a.e 22 k38_22]) rfl),
  fun f s W hW l m n p a => osure rfl rfl (a.says (d := 183) rfl rfl (l 2 rfl)) (gv (by simp [go_sem, a.e 184 (l 3 rfl)]) rfl),
  fun f s W hW l m n p a => opk (c := true) rfl rfl (fun h => absurd h (by decide)) (fun _ => by simp [go_sem, a.e 183 (l 2 rfl), a.e 185 (l 4 rfl)]),
  fun f s W hW l m n p a => opm (a.v 186 (l 5 rfl)),
  fun f s W hW l m n p a => osure rfl rfl (a.says (d := 187) rfl rfl (l 6 rfl)) (gv (by simp [go_sem, a.e 17 kz164]) rfl),
  fun f s W hW l m n p a => osure rfl rfl (a.says (d := 187) rfl rfl (l 6 rfl)) (gv (by simp [go_sem, a.e 188 (l 7 rfl)]) rfl),
  fun f s W hW l m n p a => osure rfl rfl (a.says (d := 187) rfl rfl (l 6 rfl)) (gv (by simp [go_sem, a.e 189 (l 8 rfl)]) rfl),
  fun f s W hW l m n p a => osure rfl rfl (a.says (d := 190) rfl rfl (l 9 rfl)) (gv (by simp [go_sem, a.e 18 kz165]) rfl),
  fun f s W hW l m n p a => osure rfl rfl (a.says (d := 187) rfl rfl (l 6 rfl)) (gk (c := false) (fun _ => by simp [go_sem, a.e 190 (l 9 rfl), a.e 191 (l 10 rfl)]) (fun h => absurd h (by decide))),
  fun f s W hW l m n p a => opk (c := true) rfl rfl (fun h => absurd h (by decide)) (fun _ => by simp [go_sem, a.e 187 (l 6 rfl), a.e 192 (l 11 rfl)]),
  fun f s W hW l m n p a => opm (a.v 193 (l 12 rfl)),
  fun f s W hW l m n p a => osure rfl rfl (a.says (d := 194) rfl rfl (l 13 rfl)) (gv (by simp [go_sem, a.e 17 kz164]) rfl),
  fun f s W hW l m n p a => osure rfl rfl (a.says (d := 194) rfl rfl (l 13 rfl)) (gv (by simp [go_sem, a.e 195 (l 14 rfl)]) rfl),
  fun f s W hW l m n p a => osure rfl rfl (a.says (d := 194) rfl rfl (l 13 rfl)) (gv (by simp [go_sem, a.e 196 (l 15 rfl)]) rfl),
  fun f s W hW l m n p a => osure rfl rfl (a.says (d := 197) rfl rfl (l 16 rfl)) (gv (by simp [go_sem, a.e 20 kz166]) rfl),
  fun f s W hW l m n p a => osure rfl rfl (a.says (d := 194) rfl rfl (l 13 rfl)) (gk (c := false) (fun _ => by simp [go_sem, a.e 197 (l 16 rfl), a.e 198 (l 17 rfl)]) (fun h => absurd h (by decide))),
  fun f s W hW l m n p a => opk (c := true) rfl rfl (fun h => absurd h (by decide)) (fun _ => by simp [go_sem, a.e 194 (l 13 rfl), a.e 199 (l 18 rfl)]),
  fun f s W hW l m n p a => opm (a.v 200 (l 19 rfl)),
  fun f s W hW l m n p a => osure rfl rfl (a.says (d := 201) rfl rfl (l 20 rfl)) (gc (by simp [go_sem]) (armBoard_yes W)),
  fun f s W hW l m n p a => opk (c := true) rfl rfl (fun h => absurd h (by decide)) (fun _ => by simp [go_sem, a.e 201 (l 20 rfl), a.e 202 (l 21 rfl)]),
  fun f s W hW l m n p a => opm (a.v 203 (l 22 rfl)),
  fun f s W hW l m n p a => osure rfl rfl (a.says (d := 204) rfl rfl (l 23 rfl)) (gc (by simp [go_sem]) (armScore_yes W)),
  fun f s W hW l m n p a => opk (c := true) rfl rfl (fun h => absurd h (by decide)) (fun _ => by simp [go_sem, a.e 204 (l 23 rfl), a.e 205 (l 24 rfl)]),
  fun f s W hW l m n p a => opm (a.v 206 (l 25 rfl)), trivial⟩ ?_
   intro f39 s39 W39 hB39 g39 hg39 z39
   have fB39 := hB39.f fB38
   have q167' := (q160'.below hB39.below)
   have q168' := (q161'.below hB39.below)
   have q169' := (q162'.below hB39.below)
   have q170' := (q163'.bw hB39)
   refine hK49 _ _ ?_
   have k39_4 := kt hg39 4 (hB39.is 26)
   refine wp_ret ?_
   refine leave_one (N := 207) (.inr rfl) Try.results4 rfl k39_4 ?_
   exact ⟨rfl, fB39⟩
  ·
   have kz171 : g38 17 = .bool false := k38_17.trans (by rw [hsv])
   as_aux_lemma =>
   refine rz 27 [(181, 0), (182, 1), (183, 2), (184, 3), (185, 4), (186, 5), (187, 6), (188, 7), (189, 8), (190, 9), (191, 10), (192, 11), (193, 12), (194, 13), (195, 14), (196, 15), (197, 16), (198, 17), (199, 18), (200, 19), (201, 20), (202, 21), (203, 22), (204, 23), (205, 24), (206, 25), (4, 26)] [[], [0], [1], [2], [2, 3], [2, 4], [5], [6], [6, 7], [6, 8], [9], [6, 9], [6, 11], [12], [13], [13, 14], [13, 15], [16], [13, 16], [13, 18], [19], [20], [20, 21], [22], [23], [23, 24], [25]] (rel [iI 0, iB true, iB true, iI 0, iB true, iB true, iB true, iB false, iB true, iB true, gd (true) false (fun _ _ _ => True), iB true, iB true, iB true, iB false, iB true, iB true, gd (true) false (fun _ _ _ => True), iB true, iB true, iB true, iB true, iB true, iB true, iB true, iB true, iB true])
    ⟨is_k, is_k, is_k, is_k, is_k, is_k, is_k, is_k, is_k, is_k, gdt_k, is_k, is_k, is_k, is_k, is_k, is_k, gdt_k, is_k, is_k, is_k, is_k, is_k, is_k, is_k, is_k, is_k, trivial⟩
    ⟨fun f s W hW l m n p a => opm (a.v 19 k38_19),
  fun f s W hW l m n p a => opv rfl rfl (by simp [go_sem, a.e 181 (l 0 rfl)]) rfl,
  fun f s W hW l m n p a => opm (a.v 182 (l 1 rfl)),
  fun f s W hW l m n p a => osure rfl rfl (a.says (d := 183) rfl rfl (l 2 rfl)) (gv (by simp [go_sem, a.e 22 k38_22]) rfl),
  fun f s W hW l m n p a => osure rfl rfl (a.says (d := 183) rfl rfl (l 2 rfl)) (gv (by simp [go_sem, a.e 184 (l 3 rfl)]) rfl),
  fun f s W hW l m n p a => opk (c := true) rfl rfl (fun h => absurd h (by decide)) (fun _ => by simp [go_sem, a.e 183 (l 2 rfl), a.e 185 (l 4 rfl)]),
  fun f s W hW l m n p a => opm (a.v 186 (l 5 rfl)),
  fun f s W hW l m n p a => osure rfl rfl (a.says (d := 187) rfl rfl (l 6 rfl)) (gv (by simp [go_sem, a.e 17 kz171]) rfl),
  fun f s W hW l m n p a => osure rfl rfl (a.says (d := 187) rfl rfl (l 6 rfl)) (gv (by simp [go_sem, a.e 188 (l 7 rfl)]) rfl),
  fun f s W hW l m n p a => osure rfl rfl (a.says (d := 187) rfl rfl (l 6 rfl)) (gv (by simp [go_sem, a.e 189 (l 8 rfl)]) rfl),
  fun f s W hW l m n p a => gno (a.says (d := 190) rfl rfl (l 9 rfl)),
  fun f s W hW l m n p a => osure rfl rfl (a.says (d := 187) rfl rfl (l 6 rfl)) (gk (c := true) (fun h => absurd h (by decide)) (fun _ => by simp [go_sem, a.e 190 (l 9 rfl)])),
  fun f s W hW l m n p a => opk (c := true) rfl rfl (fun h => absurd h (by decide)) (fun _ => by simp [go_sem, a.e 187 (l 6 rfl), a.e 192 (l 11 rfl)]),
  fun f s W hW l m n p a => opm (a.v 193 (l 12 rfl)),
  fun f s W hW l m n p a => osure rfl rfl (a.says (d := 194) rfl rfl (l 13 rfl)) (gv (by simp [go_sem, a.e 17 kz171]) rfl),
  fun f s W hW l m n p a => osure rfl rfl (a.says (d := 194) rfl rfl (l 13 rfl)) (gv (by simp [go_sem, a.e 195 (l 14 rfl)]) rfl),
  fun f s W hW l m n p a => osure rfl rfl (a.says (d := 194) rfl rfl (l 13 rfl)) (gv (by simp [go_sem, a.e 196 (l 15 rfl)]) rfl),
  fun f s W hW l m n p a => gno (a.says (d := 197) rfl rfl (l 16 rfl)),
  fun f s W hW l m n p a => osure rfl rfl (a.says (d := 194) rfl rfl (l 13 rfl)) (gk (c := true) (fun h => absurd h (by decide)) (fun _ => by simp [go_sem, a.e 197 (l 16 rfl)])),
  fun f s W hW l m n p a => opk (c := true) rfl rfl (fun h => absurd h (by decide)) (fun _ => by simp [go_sem, a.e 194 (l 13 rfl), a.e 199 (l 18 rfl)]),
  fun f s W hW l m n p a => opm (a.v 200 (l 19 rfl)),
  fun f s W hW l m n p a => osure rfl rfl (a.says (d := 201) rfl rfl (l 20 rfl)) (gc (by simp [go_sem]) (armBoard_yes W)),
  fun f s W hW l m n p a => opk (c := true) rfl rfl (fun h => absurd h (by decide)) (fun _ => by simp [go_sem, a.e 201 (l 20 rfl), a.e 202 (l 21 rfl)]),
  fun f s W hW l m n p a => opm (a.v 203 (l 22 rfl)),
  fun f s W hW l m n p a => osure rfl rfl (a.says (d := 204) rfl rfl (l 23 rfl)) (gc (by simp [go_sem]) (armScore_yes W)),
  fun f s W hW l m n p a => opk (c := true) rfl rfl (fun h => absurd h (by decide)) (fun _ => by simp [go_sem, a.e 204 (l 23 rfl), a.e 205 (l 24 rfl)]),
  fun f s W hW l m n p a => opm (a.v 206 (l 25 rfl)), trivial⟩ ?_
   intro f40 s40 W40 hB40 g40 hg40 z40
   have fB40 := hB40.f fB38
   have q172' := (q160'.below hB40.below)
   have q173' := (q161'.below hB40.below)
   have q174' := (q162'.below hB40.below)
   have q175' := (q163'.bw hB40)
   refine hK49 _ _ ?_
   have k40_4 := kt hg40 4 (hB40.is 26)
   refine wp_ret ?_
   refine leave_one (N := 207) (.inr rfl) Try.results4 rfl k40_4 ?_
   exact ⟨rfl, fB40⟩
end Go.Proofs.Ytolnpbpeifpbjaa
