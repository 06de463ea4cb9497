/- Part of the proof: what the claim leans on. -/
import Derived.Test.YtcgccflcjejlhaaVAN
set_option maxHeartbeats 8000000
set_option maxRecDepth 100000
set_option linter.unusedSimpArgs false
set_option linter.unusedVariables false
namespace Go.Proofs.Ytcgccflcjejlhaa
open Go.RowKit
theorem room_any (p : Tp) (os : Nat → To) (bo oo no co : Nat) (al ab_ : Option Addr) (nl cl nb_ cb_ : Nat) (sw : Int) (sf last : Bool) (bs : Nat) (ag : Option Addr) (ng cg : Nat) (gs : List Int) (ax : Option Addr) (nx cx : Nat) (xs : List Int) (w : World) (hO : OrdR w bo oo no os) (ho : ∀ i, i < no → ToIn (os i)) (gno : no ≤ 4) (hbs : w.heap[bs]? = some (.cells #[.int .i64 p.wide, .int .i64 p.tlo, .int .i64 p.thi, .int .i64 p.webs, .slice (some ⟨bo, oo, none⟩) no co, .slice al nl cl, .slice ab_ nb_ cb_, .int .i64 sw, .bool sf] 168 (0, 0))) (hG : Ii w ag ng cg gs) (hX : Ii w ax nx cx xs) (gng : ng = no) (gnx : nx = no) (gg : ∀ i, 0 ≤ elT gs i ∧ elT gs i ≤ 1000) (gx : ∀ i, 0 ≤ elT xs i ∧ elT xs i ≤ 4) :
  Calls Try.prog 113 #[.pointer (some ⟨bs, 0, none⟩), .slice ag ng cg, .slice ax nx cx, .bool last] w (fun e w' => e = .returned (.agg #[.int .i64 (roomF os gs xs last nx).1, .int .i64 (roomF os gs xs last nx).2]) ∧ Below w.heap.size w w') := by
 obtain ⟨bg, og, hG_⟩ := hG.open
 obtain ⟨bz, oz, hX_⟩ := hX.open
 refine calls_fr Try.func113 Try.ntmps113 rfl rfl fun g hg => ?_
 have k0 : g 0 = .pointer (some ⟨bs, 0, none⟩) := hg 0
 have k1 : g 1 = .slice ag ng cg := hg 1
 have k2 : g 2 = .slice ax nx cx := hg 2
 have k3 : g 3 = .bool last := hg 3
 clear hg
 have fB0 : Below w.heap.size w w := Below.refl _ _
 have lt_bs := ltb hbs
 refine rw_ 1 [(8, 0)] [[]] (rel [bx 0 #[.int .i64 0, .int .i64 0] 43])
  ⟨fun f s W j l m n q h => opb rfl rfl (by simp [go_sem]), trivial⟩ ?_
 intro f1 s1 W1 hB1 g1 hg1 z1
 obtain ⟨r1_0, br1_0⟩ := hB1.is 0
 have lr1_0 := hB1.lr 0 br1_0
 refine wp_seq_k fun K2 hK2 => ?_
 refine ry 2 [(13, 0), (9, 1)] [[], [], [0, 1]] (rel [is (.agg #[.int .i64 1, .int .i64 30]), bx 1 #[.int .i64 0, .int .i64 0] 43])
  ⟨fun f s W j l m n q h => opv rfl rfl (by simp [go_sem]) rfl,
  fun f s W j l m n q h => opb rfl rfl (by simp [go_sem]), trivial⟩ ?_
 intro f2 s2 W2 hB2 g2 hg2 z2
 have fB2 := hB2.f (hB1.f fB0)
 have b2_0 := hB2.b (hB1.b hbs)
 have b2_1 := hB2.b br1_0
 obtain ⟨r2_1, br2_1⟩ := hB2.is 1
 have lr2_1 := hB2.lr 1 br2_1
 have k2_2 := kt hg2 2 (kt hg1 2 k2)
 have k2_13 := kt hg2 13 (hB2.is 0)
 have k2_9 := kt hg2 9 r2_1
 obtain ⟨W3, hW3⟩ : ∃ W', W' = W2.setRow (s2 1) #[.int .i64 1, .int .i64 30] := ⟨_, rfl⟩
 refine tsk (o := _) rfl ⟨rfl, rfl⟩ (run_seg hW3 (fr_ev k2_9) (fr_ev k2_13) br2_1 rfl rfl rfl rfl) ?_
 obtain ⟨fB3, nb3, ot3, z3⟩ := sgf hW3 fB2 br2_1 (by omega)
 clear hW3
 have b3_0 := ot3 _ _ (by omega) b2_0
 have b3_1 := ot3 _ _ (by omega) b2_1
 refine wpe ?_
 refine hK2 _ _ ?_
 refine wp_seq_k fun K3 hK3 => ?_
 refine rw_ 3 [(14, 0), (15, 1), (16, 2)] [[], [0], []] (rel [is (.slice ax nx cx), iI ((nx : Int)), iI 0])
  ⟨fun f s W j l m n q h => opm (h.v 2 k2_2),
  fun f s W j l m n q h => opv rfl rfl (by simp [go_sem, h.e 14 (l 0 rfl)]) rfl,
  fun f s W j l m n q h => opz, trivial⟩ ?_
 intro f4 s4 W4 hB4 g4 hg4 z4
 have fB4 := hB4.f fB3
 have b4_0 := hB4.b b3_0
 have b4_1 := hB4.b b3_1
 have b4_2 := hB4.b nb3
 have k4_0 := kt hg4 0 (kt hg2 0 (kt hg1 0 k0))
 have k4_1 := kt hg4 1 (kt hg2 1 (kt hg1 1 k1))
 have k4_3 := kt hg4 3 (kt hg2 3 (kt hg1 3 k3))
 have k4_8 := kt hg4 8 (kt hg2 8 (kt hg1 8 r1_0))
 have k4_9 := kt hg4 9 k2_9
 have k4_14 := kt hg4 14 (hB4.is 0)
 have k4_15 := kt hg4 15 (hB4.is 1)
 have k4_16 := kt hg4 16 (hB4.is 2)
 refine wp_block ?_
 refine wp_loop_n (fun m_ a_ W_ => ∃ g_ : Nat → Value, a_ = fr 77 g_ ∧ (∃ k : Nat, ∃ lr : Int, ∃ hr : Int, m_ = nx - k ∧ g_ 0 = .pointer (some ⟨bs, 0, none⟩) ∧ g_ 1 = .slice ag ng cg ∧ g_ 3 = .bool last ∧ g_ 8 = .pointer (some ⟨(s1 0), 0, none⟩) ∧ g_ 9 = .pointer (some ⟨(s2 1), 0, none⟩) ∧ g_ 14 = .slice ax nx cx ∧ g_ 15 = .int .i64 ((nx : Int)) ∧ g_ 16 = .int .i64 ((k : Int)) ∧ Below w.heap.size w W_ ∧ W4.heap.size ≤ W_.heap.size ∧ W_.heap[bs]? = some (.cells #[.int .i64 p.wide, .int .i64 p.tlo, .int .i64 p.thi, .int .i64 p.webs, .slice (some ⟨bo, oo, none⟩) no co, .slice al nl cl, .slice ab_ nb_ cb_, .int .i64 sw, .bool sf] 168 (0, 0)) ∧ W_.heap[(s1 0)]? = some (.cells #[.int .i64 0, .int .i64 0] 43 (0, 0)) ∧ W_.heap[(s2 1)]? = some (.cells #[.int .i64 lr, .int .i64 hr] 43 (0, 0)) ∧ (k ≤ nx) ∧ (roomS os gs xs last k = some (lr, hr)))) ⟨_, g4, rfl, 0, 1, 30, rfl, k4_0, k4_1, k4_3, k4_8, k4_9, k4_14, k4_15, k4_16.trans (by rfl), fB4, Nat.le_refl _, b4_0, b4_1, b4_2, (by omega), rfl⟩ ?_
 rintro _ _ W_1 ⟨g_1, rfl, k, lr, hr, rfl, k_1_0, k_1_1, k_1_3, k_1_8, k_1_9, k_1_14, k_1_15, k_1_16, fB_1, z_1, b_1_0, b_1_1, m_1_0, lk0, lk1⟩
 have hg_ := gg k
 have hx_ := gx k
 have hrb_ := roomS_bd ho gg gx k (by omega) lr hr lk1
 refine rw_ 1 [(17, 0)] [[]] (rel [iB (decide ((k : Int) < (nx : Int)))])
  ⟨fun f s W j l m n q h => opv rfl rfl (by simp [go_sem, h.e 16 k_1_16, h.e 15 k_1_15]) rfl, trivial⟩ ?_
 intro f5 s5 W5 hB5 g5 hg5 z5
 have fB5 := hB5.f fB_1
 have b5_1 := hB5.b b_1_1
 have b5_2 := hB5.b m_1_0
 have k5_8 := kt hg5 8 k_1_8
 have k5_9 := kt hg5 9 k_1_9
 have k5_14 := kt hg5 14 k_1_14
 have k5_16 := kt hg5 16 k_1_16
 have k5_17 := kt hg5 17 (hB5.is 0)
 refine wp_seq_k fun K6 hK6 => ?_
 refine wp_cond_split (t := decide ((k : Int) < (nx : Int))) ((fr_eval rfl).trans k5_17) (fun hc7 => ?_) (fun hc7 => ?_)
 ·
  have hc7' := hc7; try simp only [ba] at hc7'
  have hkn : k < nx := by omega
  have hoi_ := (ho k (by omega)).need
  refine wp_skip ?_
  refine hK6 _ _ ?_
  refine wp_seq_k fun K8 hK8 => ?_
  refine wp_block ?_
  refine rw_ 5 [(18, 0), (19, 1), (20, 2), (10, 3), (11, 4)] [[], [], [1], [0], [2]] (rel [iI ((k : Int)), is (.pointer (some ⟨bz, oz + k, none⟩)), iI ((elT xs k)), iI ((k : Int)), iI ((elT xs k))])
   ⟨fun f s W j l m n q h => opm (h.v 16 k5_16),
  fun f s W j l m n q h => by have hab := (hX_ (by omega)).1; have li_ := Nat.not_le.2 (show k < nx by omega); have li2_ : (k : Int) < (nx : Int) := (by omega); exact opv rfl rfl (by simp [go_sem, h.e 14 k5_14, h.e 16 k5_16, hab, li_, li2_]) rfl,
  fun f s W j l m n q h => by have r := bwt fB5 j; have cu_ := (hX_ (by omega)).2 W r k (by omega); exact opv rfl rfl (by simp [go_sem, h.e 19 (l 1 rfl), cu_]) rfl,
  fun f s W j l m n q h => opm (h.v 18 (l 0 rfl)),
  fun f s W j l m n q h => opm (h.v 20 (l 2 rfl)), trivial⟩ ?_
  intro f6 s6 W6 hB6 g6 hg6 z6
  have fB6 := hB6.f fB5
  have b6_0 := hB6.b (hB5.b b_1_0)
  have k6_0 := kt hg6 0 (kt hg5 0 k_1_0)
  have k6_10 := kt hg6 10 (hB6.is 3)
  refine wp_seq_k fun K10 hK10 => ?_
  refine ry 10 [(21, 0), (22, 1), (23, 2), (24, 3), (25, 4), (26, 5), (27, 6), (28, 7), (29, 8), (12, 9)] [[], [0], [1], [2], [3], [], [4, 5], [6], [7], [], [0, 1, 2, 3, 4, 5, 6, 7, 8, 9]] (rel [is (.pointer (some ⟨bs, 0, none⟩)), is (.pointer (some ⟨bs, 0, none⟩)), is (.pointer (some ⟨bs, 0, none⟩)), is (.pointer (some ⟨bs, 4, none⟩)), is (.slice (some ⟨bo, oo, none⟩) no co), iI ((k : Int)), is (.pointer (some ⟨bo, oo + k * 3, none⟩)), is (.pointer (some ⟨bo, oo + k * 3 + 1, none⟩)), is (.agg #[.int .i64 ((os k).lo), .int .i64 ((os k).hi)]), bx 9 #[.int .i64 0, .int .i64 0] 43])
   ⟨fun f s W j l m n q h => opm (h.v 0 k6_0),
  fun f s W j l m n q h => opv rfl rfl (by simp [go_sem, h.e 21 (l 0 rfl)]) rfl,
  fun f s W j l m n q h => opv rfl rfl (by simp [go_sem, h.e 22 (l 1 rfl)]) rfl,
  fun f s W j l m n q h => opv rfl rfl (by simp [go_sem, h.e 23 (l 2 rfl)]) rfl,
  fun f s W j l m n q h => opv rfl rfl (by simp [go_sem, h.e 24 (l 3 rfl), cb b6_0 j 4]) rfl,
  fun f s W j l m n q h => opm (h.v 10 k6_10),
  fun f s W j l m n q h => by have li_ := Nat.not_le.2 (show k < no by omega); have li2_ : (k : Int) < (no : Int) := (by omega); exact opv rfl rfl (by simp [go_sem, h.e 25 (l 4 rfl), h.e 26 (l 5 rfl), li_, li2_]) rfl,
  fun f s W j l m n q h => opv rfl rfl (by simp [go_sem, h.e 27 (l 6 rfl)]) rfl,
  fun f s W j l m n q h => by have r := bwt fB6 j; have cu_ := (hO.below r).2 k (by omega); have cu0_ : W.cell? ⟨bo, oo + k * 3 + 1, none⟩ = some (.int .i64 (os k).lo) := cu_.2.1; have cu1_ : W.cell? ⟨bo, oo + k * 3 + 2, none⟩ = some (.int .i64 (os k).hi) := cu_.2.2; exact opv rfl rfl (by simp [go_sem, h.e 28 (l 7 rfl), cu0_, cu1_]) rfl,
  fun f s W j l m n q h => opb rfl rfl (by simp [go_sem]), trivial⟩ ?_
  intro f7 s7 W7 hB7 g7 hg7 z7
  have fB7 := hB7.f fB6
  have b7_0 := hB7.b b6_0
  have b7_1 := hB7.b (hB6.b b5_1)
  have b7_2 := hB7.b (hB6.b b5_2)
  obtain ⟨r7_9, br7_9⟩ := hB7.is 9
  have lr7_9 := hB7.lr 9 br7_9
  have k7_11 := kt hg7 11 (kt hg6 11 (hB6.is 4))
  have k7_29 := kt hg7 29 (hB7.is 8)
  have k7_12 := kt hg7 12 r7_9
  obtain ⟨W8, hW8⟩ : ∃ W', W' = W7.setRow (s7 9) #[.int .i64 ((os k).lo), .int .i64 ((os k).hi)] := ⟨_, rfl⟩
  refine tsk (o := _) rfl ⟨rfl, rfl⟩ (run_seg hW8 (fr_ev k7_12) (fr_ev k7_29) br7_9 rfl rfl rfl rfl) ?_
  obtain ⟨fB8, nb8, ot8, z8⟩ := sgf hW8 fB7 br7_9 (by omega)
  clear hW8
  have b8_0 := ot8 _ _ (by omega) b7_0
  have b8_1 := ot8 _ _ (by omega) b7_1
  have b8_2 := ot8 _ _ (by omega) b7_2
  refine wpe ?_
  refine hK10 _ _ ?_
  refine wp_block ?_
  refine rw_ 3 [(31, 0), (32, 1), (30, 2)] [[], [0], [1]] (rel [iI ((elT xs k)), iB (decide (0 < (elT xs k))), iB (decide (0 < (elT xs k)))])
   ⟨fun f s W j l m n q h => opm (h.v 11 k7_11),
  fun f s W j l m n q h => opv rfl rfl (by simp [go_sem, h.e 31 (l 0 rfl)]) rfl,
  fun f s W j l m n q h => opm (h.v 32 (l 1 rfl)), trivial⟩ ?_
  intro f9 s9 W9 hB9 g9 hg9 z9
  have fB9 := hB9.f fB8
  have b9_0 := hB9.b b8_0
  have b9_1 := hB9.b b8_1
  have b9_2 := hB9.b b8_2
  have b9_3 := hB9.b nb8
  have k9_0 := kt hg9 0 (kt hg7 0 k6_0)
  have k9_1 := kt hg9 1 (kt hg7 1 (kt hg6 1 (kt hg5 1 k_1_1)))
  have k9_3 := kt hg9 3 (kt hg7 3 (kt hg6 3 (kt hg5 3 k_1_3)))
  have k9_8 := kt hg9 8 (kt hg7 8 (kt hg6 8 k5_8))
  have k9_9 := kt hg9 9 (kt hg7 9 (kt hg6 9 k5_9))
  have k9_14 := kt hg9 14 (kt hg7 14 (kt hg6 14 k5_14))
  have k9_15 := kt hg9 15 (kt hg7 15 (kt hg6 15 (kt hg5 15 k_1_15)))
  have k9_16 := kt hg9 16 (kt hg7 16 (kt hg6 16 k5_16))
  have k9_10 := kt hg9 10 (kt hg7 10 k6_10)
  have k9_11 := kt hg9 11 k7_11
  have k9_12 := kt hg9 12 k7_12
  have k9_30 := kt hg9 30 (hB9.is 2)
  refine wp_cond_split (t := decide (0 < (elT xs k))) ((fr_eval rfl).trans k9_30) (fun hc12 => ?_) (fun hc12 => ?_)
  ·
   have hc12' := hc12; try simp only [ba] at hc12'
   have hxp_ : 0 < elT xs k := by omega
   refine wp_seq_k fun K13 hK13 => ?_
   refine ry 13 [(33, 0), (34, 1), (35, 2), (36, 3), (37, 4), (38, 5), (39, 6), (40, 7), (41, 8), (42, 9), (43, 10), (44, 11), (45, 12)] [[], [0], [], [2], [], [], [4, 5], [6], [3, 7], [], [8, 9], [1, 10], [], [0, 1, 2, 3, 4, 5, 6, 7, 8, 9, 10, 11, 12]] (rel [is (.pointer (some ⟨(s2 1), 1, none⟩)), iI hr, is (.pointer (some ⟨(s7 9), 1, none⟩)), iI ((os k).hi), is (.slice ag ng cg), iI ((k : Int)), is (.pointer (some ⟨bg, og + k, none⟩)), iI ((elT gs k)), iI (((os k).hi) - (elT gs k)), iI ((elT xs k)), iI (((((os k).hi) - (elT gs k)).tdiv (elT xs k))), iI (min hr ((((os k).hi) - (elT gs k)).tdiv (elT xs k))), is (.pointer (some ⟨(s2 1), 1, none⟩))])
    ⟨fun f s W j l m n q h => opv rfl rfl (by simp [go_sem, h.e 9 k9_9]) rfl,
  fun f s W j l m n q h => opv rfl rfl (by simp [go_sem, h.e 33 (l 0 rfl), cb b9_2 j 1]) rfl,
  fun f s W j l m n q h => opv rfl rfl (by simp [go_sem, h.e 12 k9_12]) rfl,
  fun f s W j l m n q h => opv rfl rfl (by simp [go_sem, h.e 35 (l 2 rfl), cb b9_3 j 1]) rfl,
  fun f s W j l m n q h => opm (h.v 1 k9_1),
  fun f s W j l m n q h => opm (h.v 10 k9_10),
  fun f s W j l m n q h => by have hab := (hG_ (by omega)).1; have li_ := Nat.not_le.2 (show k < ng by omega); have li2_ : (k : Int) < (ng : Int) := (by omega); exact opv rfl rfl (by simp [go_sem, h.e 37 (l 4 rfl), h.e 38 (l 5 rfl), hab, li_, li2_]) rfl,
  fun f s W j l m n q h => by have r := bwt fB9 j; have cu_ := (hG_ (by omega)).2 W r k (by omega); exact opv rfl rfl (by simp [go_sem, h.e 39 (l 6 rfl), cu_]) rfl,
  fun f s W j l m n q h => opv rfl rfl (by simp [go_sem, h.e 36 (l 3 rfl), h.e 40 (l 7 rfl), IntWalk.i64_in (((os k).hi) - (elT gs k)) (by omega)]) rfl,
  fun f s W j l m n q h => opm (h.v 11 k9_11),
  fun f s W j l m n q h => by have qd_ := tdiv_bd (a := ((os k).hi) - (elT gs k)) (b := (elT xs k)) (M := 2000) (by omega) (by omega) (by omega); have qw_ := IntWalk.i64_in ((((os k).hi) - (elT gs k)).tdiv (elT xs k)) (by omega); have qz_ : ¬ (elT xs k) = 0 := (by omega); exact opv rfl rfl (by simp [go_sem, h.e 41 (l 8 rfl), h.e 42 (l 9 rfl), qw_, qz_]) rfl,
  fun f s W j l m n q h => opv rfl rfl (by simp [go_sem, h.e 34 (l 1 rfl), h.e 43 (l 10 rfl)]) rfl,
  fun f s W j l m n q h => opv rfl rfl (by simp [go_sem, h.e 9 k9_9]) rfl, trivial⟩ ?_
   intro f10 s10 W10 hB10 g10 hg10 z10
   have fB10 := hB10.f fB9
   have b10_0 := hB10.b b9_0
   have b10_1 := hB10.b b9_1
   have b10_2 := hB10.b b9_2
   have b10_3 := hB10.b b9_3
   have k10_3 := kt hg10 3 k9_3
   have k10_44 := kt hg10 44 (hB10.is 11)
   have k10_45 := kt hg10 45 (hB10.is 12)
   obtain ⟨W11, hW11⟩ : ∃ W', W' = W10.setRow (s2 1) #[.int .i64 lr, .int .i64 (min hr ((((os k).hi) - (elT gs k)).tdiv (elT xs k)))] := ⟨_, rfl⟩
   refine tsk (o := _) rfl ⟨rfl, rfl⟩ (run_seg hW11 (fr_ev k10_45) (fr_ev k10_44) b10_2 rfl rfl rfl rfl) ?_
   obtain ⟨fB11, nb11, ot11, z11⟩ := sgf hW11 fB10 b10_2 (by omega)
   clear hW11
   have b11_0 := ot11 _ _ (by omega) b10_0
   have b11_1 := ot11 _ _ (by omega) b10_1
   have b11_3 := ot11 _ _ (by omega) b10_3
   refine wpe ?_
   refine hK13 _ _ ?_
   refine rw_ 1 [(46, 0)] [[]] (rel [iB last])
    ⟨fun f s W j l m n q h => opm (h.v 3 k10_3), trivial⟩ ?_
   intro f12 s12 W12 hB12 g12 hg12 z12
   have fB12 := hB12.f fB11
   have b12_0 := hB12.b b11_0
   have b12_1 := hB12.b b11_1
   have b12_2 := hB12.b nb11
   have b12_3 := hB12.b b11_3
   have k12_0 := kt hg12 0 (kt hg10 0 k9_0)
   have k12_1 := kt hg12 1 (kt hg10 1 k9_1)
   have k12_3 := kt hg12 3 k10_3
   have k12_8 := kt hg12 8 (kt hg10 8 k9_8)
   have k12_9 := kt hg12 9 (kt hg10 9 k9_9)
   have k12_14 := kt hg12 14 (kt hg10 14 k9_14)
   have k12_15 := kt hg12 15 (kt hg10 15 k9_15)
   have k12_16 := kt hg12 16 (kt hg10 16 k9_16)
   have k12_10 := kt hg12 10 (kt hg10 10 k9_10)
   have k12_11 := kt hg12 11 (kt hg10 11 k9_11)
   have k12_12 := kt hg12 12 (kt hg10 12 k9_12)
   have k12_46 := kt hg12 46 (hB12.is 0)
   refine wp_cond_split (t := last) ((fr_eval rfl).trans k12_46) (fun hc15 => ?_) (fun hc15 => ?_)
   ·
    have hc15' := hc15; try simp only [ba] at hc15'
    have hls_ : last = true := hc15
    refine ry 16 [(47, 0), (48, 1), (49, 2), (50, 3), (51, 4), (52, 5), (53, 6), (54, 7), (55, 8), (56, 9), (57, 10), (58, 11), (59, 12), (60, 13), (61, 14), (62, 15)] [[], [0], [], [2], [], [], [4, 5], [6], [3, 7], [], [8, 9], [10], [], [11, 12], [1, 13], [], [0, 1, 2, 3, 4, 5, 6, 7, 8, 9, 10, 11, 12, 13, 14, 15]] (rel [is (.pointer (some ⟨(s2 1), 0, none⟩)), iI lr, is (.pointer (some ⟨(s7 9), 0, none⟩)), iI ((os k).lo), is (.slice ag ng cg), iI ((k : Int)), is (.pointer (some ⟨bg, og + k, none⟩)), iI ((elT gs k)), iI (((os k).lo) - (elT gs k)), iI ((elT xs k)), iI ((((os k).lo) - (elT gs k)) + (elT xs k)), iI (((((os k).lo) - (elT gs k)) + (elT xs k)) - 1), iI ((elT xs k)), iI (((((((os k).lo) - (elT gs k)) + (elT xs k)) - 1).tdiv (elT xs k))), iI (max lr ((((((os k).lo) - (elT gs k)) + (elT xs k)) - 1).tdiv (elT xs k))), is (.pointer (some ⟨(s2 1), 0, none⟩))])
     ⟨fun f s W j l m n q h => opv rfl rfl (by simp [go_sem, h.e 9 k12_9]) rfl,
  fun f s W j l m n q h => opv rfl rfl (by simp [go_sem, h.e 47 (l 0 rfl), cb b12_2 j 0]) rfl,
  fun f s W j l m n q h => opv rfl rfl (by simp [go_sem, h.e 12 k12_12]) rfl,
  fun f s W j l m n q h => opv rfl rfl (by simp [go_sem, h.e 49 (l 2 rfl), cb b12_3 j 0]) rfl,
  fun f s W j l m n q h => opm (h.v 1 k12_1),
  fun f s W j l m n q h => opm (h.v 10 k12_10),
  fun f s W j l m n q h => by have hab := (hG_ (by omega)).1; have li_ := Nat.not_le.2 (show k < ng by omega); have li2_ : (k : Int) < (ng : Int) := (by omega); exact opv rfl rfl (by simp [go_sem, h.e 51 (l 4 rfl), h.e 52 (l 5 rfl), hab, li_, li2_]) rfl,
  fun f s W j l m n q h => by have r := bwt fB12 j; have cu_ := (hG_ (by omega)).2 W r k (by omega); exact opv rfl rfl (by simp [go_sem, h.e 53 (l 6 rfl), cu_]) rfl,
  fun f s W j l m n q h => opv rfl rfl (by simp [go_sem, h.e 50 (l 3 rfl), h.e 54 (l 7 rfl), IntWalk.i64_in (((os k).lo) - (elT gs k)) (by omega)]) rfl,
  fun f s W j l m n q h => opm (h.v 11 k12_11),
  fun f s W j l m n q h => opv rfl rfl (by simp [go_sem, h.e 55 (l 8 rfl), h.e 56 (l 9 rfl), IntWalk.i64_in ((((os k).lo) - (elT gs k)) + (elT xs k)) (by omega)]) rfl,
  fun f s W j l m n q h => opv rfl rfl (by simp [go_sem, h.e 57 (l 10 rfl), IntWalk.i64_in (((((os k).lo) - (elT gs k)) + (elT xs k)) - 1) (by omega)]) rfl,
  fun f s W j l m n q h => opm (h.v 11 k12_11),
  fun f s W j l m n q h => by have qd_ := tdiv_bd (a := ((((os k).lo) - (elT gs k)) + (elT xs k)) - 1) (b := (elT xs k)) (M := 2000) (by omega) (by omega) (by omega); have qw_ := IntWalk.i64_in ((((((os k).lo) - (elT gs k)) + (elT xs k)) - 1).tdiv (elT xs k)) (by omega); have qz_ : ¬ (elT xs k) = 0 := (by omega); exact opv rfl rfl (by simp [go_sem, h.e 58 (l 11 rfl), h.e 59 (l 12 rfl), qw_, qz_]) rfl,
  fun f s W j l m n q h => opv rfl rfl (by simp [go_sem, h.e 48 (l 1 rfl), h.e 60 (l 13 rfl)]) rfl,
  fun f s W j l m n q h => opv rfl rfl (by simp [go_sem, h.e 9 k12_9]) rfl, trivial⟩ ?_
    intro f13 s13 W13 hB13 g13 hg13 z13
    have fB13 := hB13.f fB12
    have b13_0 := hB13.b b12_0
    have b13_1 := hB13.b b12_1
    have b13_2 := hB13.b b12_2
    have k13_0 := kt hg13 0 k12_0
    have k13_1 := kt hg13 1 k12_1
    have k13_3 := kt hg13 3 k12_3
    have k13_8 := kt hg13 8 k12_8
    have k13_9 := kt hg13 9 k12_9
    have k13_14 := kt hg13 14 k12_14
    have k13_15 := kt hg13 15 k12_15
    have k13_16 := kt hg13 16 k12_16
    have k13_61 := kt hg13 61 (hB13.is 14)
    have k13_62 := kt hg13 62 (hB13.is 15)
    obtain ⟨W14, hW14⟩ : ∃ W', W' = W13.setRow (s2 1) #[.int .i64 (max lr ((((((os k).lo) - (elT gs k)) + (elT xs k)) - 1).tdiv (elT xs k))), .int .i64 (min hr ((((os k).hi) - (elT gs k)).tdiv (elT xs k)))] := ⟨_, rfl⟩
    refine tsk (o := _) rfl ⟨rfl, rfl⟩ (run_seg hW14 (fr_ev k13_62) (fr_ev k13_61) b13_2 rfl rfl rfl rfl) ?_
    obtain ⟨fB14, nb14, ot14, z14⟩ := sgf hW14 fB13 b13_2 (by omega)
    clear hW14
    have b14_0 := ot14 _ _ (by omega) b13_0
    have b14_1 := ot14 _ _ (by omega) b13_1
    refine wpe ?_
    refine ibn ?_
    refine ibn ?_
    refine hK8 _ _ ?_
    refine ry 2 [(75, 0), (16, 1)] [[], [0]] (rel [iI ((k : Int) + 1), iI ((k : Int) + 1)])
     ⟨fun f s W j l m n q h => opv rfl rfl (by simp [go_sem, h.e 16 ((n 1 16 rfl rfl).trans k13_16), IntWalk.i64_in ((k : Int) + 1) (by omega)]) rfl,
  fun f s W j l m n q h => opm (h.v 75 (l 0 rfl)), trivial⟩ ?_
    intro f15 s15 W15 hB15 g15 hg15 z15
    have fB15 := hB15.f fB14
    have b15_0 := hB15.b b14_0
    have b15_1 := hB15.b b14_1
    have b15_2 := hB15.b nb14
    refine wpe ?_
    have k15_0 := kt hg15 0 k13_0
    have k15_1 := kt hg15 1 k13_1
    have k15_3 := kt hg15 3 k13_3
    have k15_8 := kt hg15 8 k13_8
    have k15_9 := kt hg15 9 k13_9
    have k15_14 := kt hg15 14 k13_14
    have k15_15 := kt hg15 15 k13_15
    have k15_16 := kt hg15 16 (hB15.is 1)
    refine then_normal ?_
    have er_ : roomS os gs xs last (k + 1) = some (max lr ((((((os k).lo) - (elT gs k)) + (elT xs k)) - 1).tdiv (elT xs k)), min hr ((((os k).hi) - (elT gs k)).tdiv (elT xs k))) := by rw [roomS, lk1]; simp only [if_pos hxp_, hls_, if_true]
    exact ⟨_, by omega, g15, rfl, k + 1, max lr ((((((os k).lo) - (elT gs k)) + (elT xs k)) - 1).tdiv (elT xs k)), min hr ((((os k).hi) - (elT gs k)).tdiv (elT xs k)), rfl, k15_0, k15_1, k15_3, k15_8, k15_9, k15_14, k15_15, k15_16.trans (by go_num), fB15, (by omega), b15_0, b15_1, b15_2, (by omega), er_⟩
   ·
    have hc15' := hc15; try simp only [ba] at hc15'
    have hls_ : last = false := hc15
    refine wp_skip ?_
    refine ibn ?_
    refine ibn ?_
    refine hK8 _ _ ?_
    refine ry 2 [(75, 0), (16, 1)] [[], [0]] (rel [iI ((k : Int) + 1), iI ((k : Int) + 1)])
     ⟨fun f s W j l m n q h => opv rfl rfl (by simp [go_sem, h.e 16 ((n 1 16 rfl rfl).trans k12_16), IntWalk.i64_in ((k : Int) + 1) (by omega)]) rfl,
  fun f s W j l m n q h => opm (h.v 75 (l 0 rfl)), trivial⟩ ?_
    intro f16 s16 W16 hB16 g16 hg16 z16
    have fB16 := hB16.f fB12
    have b16_0 := hB16.b b12_0
    have b16_1 := hB16.b b12_1
    have b16_2 := hB16.b b12_2
    refine wpe ?_
    have k16_0 := kt hg16 0 k12_0
    have k16_1 := kt hg16 1 k12_1
    have k16_3 := kt hg16 3 k12_3
    have k16_8 := kt hg16 8 k12_8
    have k16_9 := kt hg16 9 k12_9
    have k16_14 := kt hg16 14 k12_14
    have k16_15 := kt hg16 15 k12_15
    have k16_16 := kt hg16 16 (hB16.is 1)
    refine then_normal ?_
    have er_ : roomS os gs xs last (k + 1) = some (lr, min hr ((((os k).hi) - (elT gs k)).tdiv (elT xs k))) := by rw [roomS, lk1]; simp only [if_pos hxp_, hls_]; rfl
    exact ⟨_, by omega, g16, rfl, k + 1, lr, min hr ((((os k).hi) - (elT gs k)).tdiv (elT xs k)), rfl, k16_0, k16_1, k16_3, k16_8, k16_9, k16_14, k16_15, k16_16.trans (by go_num), fB16, (by omega), b16_0, b16_1, b16_2, (by omega), er_⟩
  ·
   have hc12' := hc12; try simp only [ba] at hc12'
   have hxp_ : ¬ 0 < elT xs k := by omega
   refine rw_ 11 [(64, 0), (65, 1), (66, 2), (67, 3), (68, 4), (69, 5), (70, 6), (71, 7), (72, 8), (73, 9), (63, 10)] [[], [0], [1], [1], [1, 2, 3], [1, 4], [1], [1, 6], [1, 5, 7], [1, 8], [9]] (rel [iB last, iB last, gd (last) true (is (.slice ag ng cg)), gd (last) true (iI ((k : Int))), gd (last) true (is (.pointer (some ⟨bg, og + k, none⟩))), gd (last) true (iI ((elT gs k))), gd (last) true (is (.pointer (some ⟨(s7 9), 0, none⟩))), gd (last) true (iI ((os k).lo)), gd (last) true (iB (decide ((elT gs k) < ((os k).lo)))), iB (last && (decide ((elT gs k) < ((os k).lo)))), iB (last && (decide ((elT gs k) < ((os k).lo))))])
    ⟨fun f s W j l m n q h => opm (h.v 3 k9_3),
  fun f s W j l m n q h => opm (h.v 64 (l 0 rfl)),
  fun f s W j l m n q h => gdo rfl rfl (h.says (d := 65) rfl rfl (l 1 rfl)) fun hgd0 => gv (by simp [go_sem, h.e 1 k9_1]) rfl,
  fun f s W j l m n q h => gdo rfl rfl (h.says (d := 65) rfl rfl (l 1 rfl)) fun hgd0 => gv (by simp [go_sem, h.e 10 k9_10]) rfl,
  fun f s W j l m n q h => gdo rfl rfl (h.says (d := 65) rfl rfl (l 1 rfl)) fun hgd0 => by have hab := (hG_ (by omega)).1; have li_ := Nat.not_le.2 (show k < ng by omega); have li2_ : (k : Int) < (ng : Int) := (by omega); exact gv (by simp [go_sem, h.e 66 ((l 2 rfl).1 hgd0), h.e 67 ((l 3 rfl).1 hgd0), hab, li_, li2_]) rfl,
  fun f s W j l m n q h => gdo rfl rfl (h.says (d := 65) rfl rfl (l 1 rfl)) fun hgd0 => by have r := bwt fB9 j; have cu_ := (hG_ (by omega)).2 W r k (by omega); exact gv (by simp [go_sem, h.e 68 ((l 4 rfl).1 hgd0), cu_]) rfl,
  fun f s W j l m n q h => gdo rfl rfl (h.says (d := 65) rfl rfl (l 1 rfl)) fun hgd0 => gv (by simp [go_sem, h.e 12 k9_12]) rfl,
  fun f s W j l m n q h => gdo rfl rfl (h.says (d := 65) rfl rfl (l 1 rfl)) fun hgd0 => gv (by simp [go_sem, h.e 70 ((l 6 rfl).1 hgd0), cb b9_3 j 0]) rfl,
  fun f s W j l m n q h => gdo rfl rfl (h.says (d := 65) rfl rfl (l 1 rfl)) fun hgd0 => gv (by simp [go_sem, h.e 69 ((l 5 rfl).1 hgd0), h.e 71 ((l 7 rfl).1 hgd0)]) rfl,
  fun f s W j l m n q h => opk (c := last) rfl rfl (fun hpk => by simp [go_sem, hpk, h.e 65 (l 1 rfl)]) (fun hpk => by simp [go_sem, hpk, h.e 65 (l 1 rfl), h.e 72 ((l 8 rfl).1 hpk)]),
  fun f s W j l m n q h => opm (h.v 73 (l 9 rfl)), trivial⟩ ?_
   intro f17 s17 W17 hB17 g17 hg17 z17
   have fB17 := hB17.f fB9
   have b17_0 := hB17.b b9_0
   have b17_1 := hB17.b b9_1
   have b17_2 := hB17.b b9_2
   have k17_0 := kt hg17 0 k9_0
   have k17_1 := kt hg17 1 k9_1
   have k17_3 := kt hg17 3 k9_3
   have k17_8 := kt hg17 8 k9_8
   have k17_9 := kt hg17 9 k9_9
   have k17_14 := kt hg17 14 k9_14
   have k17_15 := kt hg17 15 k9_15
   have k17_16 := kt hg17 16 k9_16
   have k17_63 := kt hg17 63 (hB17.is 10)
   refine wp_cond_split (t := last && (decide ((elT gs k) < ((os k).lo)))) ((fr_eval rfl).trans k17_63) (fun hc17 => ?_) (fun hc17 => ?_)
   ·
    have hc17' := hc17; try simp only [ba] at hc17'
    have hl63_ : (last && decide (elT gs k < (os k).lo)) = true := hc17
    have enone_ : roomS os gs xs last (k + 1) = none := by rw [roomS, lk1]; simp only [if_neg hxp_, hl63_, if_true]
    have enx_ : roomS os gs xs last nx = none := by have := roomS_none enone_ (nx - (k + 1)); rwa [show k + 1 + (nx - (k + 1)) = nx by omega] at this
    refine wp_seq_k fun K18 hK18 => ?_
    refine ry 1 [(74, 0)] [[], [0]] (rel [is (.agg #[.int .i64 1, .int .i64 0])])
     ⟨fun f s W j l m n q h => opv rfl rfl (by simp [go_sem]) rfl, trivial⟩ ?_
    intro f18 s18 W18 hB18 g18 hg18 z18
    have fB18 := hB18.f fB17
    have b18_1 := hB18.b b17_1
    have k18_8 := kt hg18 8 k17_8
    have k18_74 := kt hg18 74 (hB18.is 0)
    obtain ⟨W19, hW19⟩ : ∃ W', W' = W18.setRow (s1 0) #[.int .i64 1, .int .i64 0] := ⟨_, rfl⟩
    refine tsk (o := _) rfl ⟨rfl, rfl⟩ (run_seg hW19 (fr_ev k18_8) (fr_ev k18_74) b18_1 rfl rfl rfl rfl) ?_
    obtain ⟨fB19, nb19, ot19, z19⟩ := sgf hW19 fB18 b18_1 (by omega)
    clear hW19
    refine wpe ?_
    refine hK18 _ _ ?_
    refine wp_ret ?_
    refine inBlock_ret (inBlock_ret (then_ret (then_ret (inBlock_ret (then_ret ?_)))))
    refine leave_gen (v := .agg #[.int .i64 1, .int .i64 0]) (.inr rfl) (by simp [results, Try.results113, go_sem, frv 77 k18_8, Joins.cell_of_block nb19 0, Joins.cell_of_block nb19 1]) ?_
    exact ⟨by rw [roomF, enx_]; rfl, fB19⟩
   ·
    have hc17' := hc17; try simp only [ba] at hc17'
    have hl63_ : (last && decide (elT gs k < (os k).lo)) = false := hc17
    refine wp_skip ?_
    refine ibn ?_
    refine ibn ?_
    refine hK8 _ _ ?_
    refine ry 2 [(75, 0), (16, 1)] [[], [0]] (rel [iI ((k : Int) + 1), iI ((k : Int) + 1)])
     ⟨fun f s W j l m n q h => opv rfl rfl (by simp [go_sem, h.e 16 ((n 1 16 rfl rfl).trans k17_16), IntWalk.i64_in ((k : Int) + 1) (by omega)]) rfl,
  fun f s W j l m n q h => opm (h.v 75 (l 0 rfl)), trivial⟩ ?_
    intro f20 s20 W20 hB20 g20 hg20 z20
    have fB20 := hB20.f fB17
    have b20_0 := hB20.b b17_0
    have b20_1 := hB20.b b17_1
    have b20_2 := hB20.b b17_2
    refine wpe ?_
    have k20_0 := kt hg20 0 k17_0
    have k20_1 := kt hg20 1 k17_1
    have k20_3 := kt hg20 3 k17_3
    have k20_8 := kt hg20 8 k17_8
    have k20_9 := kt hg20 9 k17_9
    have k20_14 := kt hg20 14 k17_14
    have k20_15 := kt hg20 15 k17_15
    have k20_16 := kt hg20 16 (hB20.is 1)
    refine then_normal ?_
    have er_ : roomS os gs xs last (k + 1) = some (lr, hr) := by rw [roomS, lk1]; simp only [if_neg hxp_, hl63_]; rfl
    exact ⟨_, by omega, g20, rfl, k + 1, lr, hr, rfl, k20_0, k20_1, k20_3, k20_8, k20_9, k20_14, k20_15, k20_16.trans (by go_num), fB20, (by omega), b20_0, b20_1, b20_2, (by omega), er_⟩
 ·
  have hc7' := hc7; try simp only [ba] at hc7'
  have hkn : k = nx := by omega
  refine wp_exit ?_
  refine then_exit ?_
  refine then_exit ?_
  refine inBlock_at ?_
  refine hK3 _ _ ?_
  refine wp_seq_k fun K19 hK19 => ?_
  refine ry 1 [(76, 0)] [[], [0]] (rel [is (.agg #[.int .i64 lr, .int .i64 hr])])
   ⟨fun f s W j l m n q h => opv rfl rfl (by simp [go_sem, h.e 9 k5_9, cb b5_2 j 0, cb b5_2 j 1]) rfl, trivial⟩ ?_
  intro f21 s21 W21 hB21 g21 hg21 z21
  have fB21 := hB21.f fB5
  have b21_1 := hB21.b b5_1
  have k21_8 := kt hg21 8 k5_8
  have k21_76 := kt hg21 76 (hB21.is 0)
  obtain ⟨W22, hW22⟩ : ∃ W', W' = W21.setRow (s1 0) #[.int .i64 lr, .int .i64 hr] := ⟨_, rfl⟩
  refine tsk (o := _) rfl ⟨rfl, rfl⟩ (run_seg hW22 (fr_ev k21_8) (fr_ev k21_76) b21_1 rfl rfl rfl rfl) ?_
  obtain ⟨fB22, nb22, ot22, z22⟩ := sgf hW22 fB21 b21_1 (by omega)
  clear hW22
  refine wpe ?_
  refine hK19 _ _ ?_
  refine wp_ret ?_
  refine leave_gen (v := .agg #[.int .i64 lr, .int .i64 hr]) (.inr rfl) (by simp [results, Try.results113, go_sem, frv 77 k21_8, Joins.cell_of_block nb22 0, Joins.cell_of_block nb22 1]) ?_
  exact ⟨by rw [hkn] at lk1; rw [roomF, lk1]; rfl, fB22⟩
end Go.Proofs.Ytcgccflcjejlhaa
