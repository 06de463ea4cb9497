/- Part of the proof: what the claim leans on. -/
import Derived.Test.YtcgccflcjejlhaaVBA
set_option maxHeartbeats 16000000
set_option maxRecDepth 100000
set_option linter.unusedSimpArgs false
set_option linter.unusedVariables false
namespace Go.Proofs.Ytcgccflcjejlhaa
open Go.RowKit
theorem ro_Plan (nu de tl : Int) (ss : Nat → Int × Int) (ra : Option Addr) (n c : Nat) (lg : Nat → Int) (qa : Option Addr) (m cq : Nat) (w : World) (hU : RoUp nu de tl) (hO : SpL w ra n ss) (ho : ∀ i, i < n → RoIn tl (ss i)) (gn : n ≤ 6) (hQ : RdL w qa m lg) (hq : ∀ i, i < m → RdIn (lg i)) (gm : m ≤ 10) :
    Calls Try.prog 17 #[.agg #[.int .i64 nu, .int .i64 de, .int .i64 tl, .slice ra n c], .slice qa m cq] w (fun e w' => ((e = .returned (.tuple #[.slice none 0 0, .int .i64 9])) ∨ ∃ xs g c, e = .returned (.tuple #[.slice (some ⟨g, 0, none⟩) (List.length xs) c, .int .i64 0]) ∧ OwnR 3 1 w.heap.size xs.length (iis xs) g c w' ∧ GoodL n xs ∧ xs.length ≤ n ∧ (fltB (badB nu de tl (pkS ss xs) xs.length lg) m) = false) ∧ Below w.heap.size w w') := by
  refine calls_frM (n := 10) Try.func17 Try.ntmps17 rfl rfl fun g hg => ?_
  have k0 : g 0 = .agg #[.int .i64 nu, .int .i64 de, .int .i64 tl, .slice ra n c] := hg 0
  have k1 : g 1 = .slice qa m cq := hg 1
  clear hg
  have fB0 : Below w.heap.size w w := Below.refl _ _
  refine wp_seq_k fun K1 hK1 => ?_
  refine ry 4 [(2, 0), (3, 1), (4, 2), (5, 3)] [[], [], [], []] (rel [bx 0 #[.int .i64 nu, .int .i64 de, .int .i64 tl, .slice ra n c] 80, bx 1 #[.slice qa m cq] 71, bx 2 #[.slice none 0 0] 25, bx 3 #[.int .i64 0] 37])
    ⟨fun f s W d l q u x a => opb rfl rfl (by simp [go_sem, a.e 0 k0]),
    fun f s W d l q u x a => opb rfl rfl (by simp [go_sem, a.e 1 k1]),
    fun f s W d l q u x a => opb rfl rfl (by simp [go_sem]),
    fun f s W d l q u x a => opb rfl rfl (by simp [go_sem]), trivial⟩ ?_
  intro f1 s1 W1 hB1 g1 hg1 z1
  have fB1 := hB1.f fB0
  obtain ⟨r1_0, br1_0⟩ := hB1.is 0
  have lr1_0 := hB1.lr 0 br1_0
  obtain ⟨r1_1, br1_1⟩ := hB1.is 1
  have lr1_1 := hB1.lr 1 br1_1
  obtain ⟨r1_2, br1_2⟩ := hB1.is 2
  have lr1_2 := hB1.lr 2 br1_2
  obtain ⟨r1_3, br1_3⟩ := hB1.is 3
  have lr1_3 := hB1.lr 3 br1_3
  have ne1_0_1 := hB1.nb 0 1
  have ne1_0_2 := hB1.nb 0 2
  have ne1_1_2 := hB1.nb 1 2
  have ne1_0_3 := hB1.nb 0 3
  have ne1_1_3 := hB1.nb 1 3
  have ne1_2_3 := hB1.nb 2 3
  refine hK1 _ _ ?_
  have k1_2 := kt hg1 2 r1_0
  have k1_3 := kt hg1 3 r1_1
  refine wp_seq_k fun K2 hK2 => ?_
  refine rw_ 4 [(13, 0), (14, 1), (15, 2), (6, 3)] [[], [], [0, 1], [0, 1, 2]] (rel [is (.agg #[.int .i64 nu, .int .i64 de, .int .i64 tl, .slice ra n c]), is (.slice qa m cq), iI 0, iI 0])
    ⟨fun f s W d l q u x a => opl rfl rfl rfl (a.v 2 k1_2) (bwb br1_0 d) Try.underlying80 rfl (by kernel_rfl) rfl,
    fun f s W d l q u x a => opv rfl rfl (by simp [go_sem, a.e 3 k1_3, cb br1_1 d 0]) rfl,
    fun f s W d l q u x a => by have y := bwt fB1 d; exact opc rfl rfl (by simp [go_sem, a.e 13 (l 0 rfl), a.e 14 (l 1 rfl)]) (ro_check_yes nu de tl ss ra n c W hU (hO.below y) ho gn lg qa m cq (hQ.below y) hq gm),
    fun f s W d l q u x a => opv rfl rfl (by simp [go_sem, a.e 15 (l 2 rfl)]) rfl, trivial⟩ ?_
  intro f2 s2 W2 hB2 g2 hg2 z2
  have k2_6 := kt hg2 6 (hB2.is 3)
  refine wp_seq_k fun K4 hK4 => ?_
  refine ry 2 [(16, 0), (17, 1)] [[], [0]] (rel [iI 0, iB false])
    ⟨fun f s W d l q u x a => opv rfl rfl (by simp [go_sem, a.e 6 k2_6]) rfl,
    fun f s W d l q u x a => opv rfl rfl (by simp [go_sem, a.e 16 (l 0 rfl)]) rfl, trivial⟩ ?_
  intro f3 s3 W3 hB3 g3 hg3 z3
  have b3_0 := hB3.b (hB2.b br1_0)
  have b3_1 := hB3.b (hB2.b br1_1)
  refine hK4 _ _ ?_
  have k3_2 := kt hg3 2 (kt hg2 2 k1_2)
  have k3_3 := kt hg3 3 (kt hg2 3 k1_3)
  have k3_17 := kt hg3 17 (hB3.is 1)
  refine wp_cond_false ((fr_eval rfl).trans k3_17) ?_
  refine wp_skip ?_
  refine hK2 _ _ ?_
  refine wp_seq_k fun K6 hK6 => ?_
  refine ry 5 [(19, 0), (20, 1), (21, 2), (22, 3), (7, 4)] [[], [0], [], [0, 1, 2], [], [0, 1, 2, 3, 4]] (rel [is (.agg #[.int .i64 nu, .int .i64 de, .int .i64 tl, .slice ra n c]), is (.agg #[.int .i64 nu, .int .i64 de, .int .i64 tl, .slice ra n c]), is (.slice qa m cq), is (.agg #[.int .i64 nu, .int .i64 de, .int .i64 tl, .slice ra n c, .slice qa m cq]), bx 4 #[.int .i64 0, .int .i64 0, .int .i64 0, .slice none 0 0, .slice none 0 0] 130])
    ⟨fun f s W d l q u x a => opl rfl rfl rfl (a.v 2 k3_2) (bwb b3_0 d) Try.underlying80 rfl (by kernel_rfl) rfl,
    fun f s W d l q u x a => opv rfl rfl (by simp [go_sem, a.e 19 (l 0 rfl)]) rfl,
    fun f s W d l q u x a => opv rfl rfl (by simp [go_sem, a.e 3 k3_3, cb b3_1 d 0]) rfl,
    fun f s W d l q u x a => opv rfl rfl (by simp [go_sem, a.e 20 (l 1 rfl), a.e 21 (l 2 rfl)]) rfl,
    fun f s W d l q u x a => opb rfl rfl (by simp [go_sem]), trivial⟩ ?_
  intro f4 s4 W4 hB4 g4 hg4 z4
  have fB4 := hB4.f (hB3.f (hB2.f fB1))
  have b4_0 := hB4.b b3_0
  have b4_1 := hB4.b b3_1
  have b4_2 := hB4.b (hB3.b (hB2.b br1_2))
  have b4_3 := hB4.b (hB3.b (hB2.b br1_3))
  obtain ⟨r4_4, br4_4⟩ := hB4.is 4
  have lr4_4 := hB4.lr 4 br4_4
  have k4_2 := kt hg4 2 k3_2
  have k4_22 := kt hg4 22 (hB4.is 3)
  have k4_7 := kt hg4 7 r4_4
  obtain ⟨W5, hW5⟩ : ∃ W', W' = W4.setRow (s4 4) #[.int .i64 nu, .int .i64 de, .int .i64 tl, .slice ra n c, .slice qa m cq] := ⟨_, rfl⟩
  refine tsk (o := _) rfl ⟨rfl, rfl⟩ (run_seg hW5 (fr_ev k4_7) (fr_ev k4_22) br4_4 rfl rfl rfl rfl) ?_
  obtain ⟨fB5, nb5, ot5, z5⟩ := sgf hW5 fB4 br4_4 (by omega)
  clear hW5
  have b5_0 := ot5 _ _ (by omega) b4_0
  have b5_1 := ot5 _ _ (by omega) b4_1
  have b5_2 := ot5 _ _ (by omega) b4_2
  have b5_3 := ot5 _ _ (by omega) b4_3
  refine wpe ?_
  refine hK6 _ _ ?_
  refine wp_seq_k fun K7 hK7 => ?_
  refine rw_ 5 [(23, 0), (24, 1), (25, 2), (26, 3), (27, 4)] [[], [0], [0, 1], [0, 1, 2], []] (rel [is (.pointer (some ⟨(s1 0), 3, none⟩)), is (.slice ra n c), iI ((n : Int)), iI ((n : Int) + 1), iI 0])
    ⟨fun f s W d l q u x a => opv rfl rfl (by simp [go_sem, a.e 2 k4_2]) rfl,
    fun f s W d l q u x a => opv rfl rfl (by simp [go_sem, a.e 23 (l 0 rfl), cb b5_0 d 3]) rfl,
    fun f s W d l q u x a => opv rfl rfl (by simp [go_sem, a.e 24 (l 1 rfl)]) rfl,
    fun f s W d l q u x a => opv rfl rfl (by simp [go_sem, a.e 25 (l 2 rfl), IntWalk.i64_in ((n : Int) + 1) (by omega)]) rfl,
    fun f s W d l q u x a => opv rfl rfl (by simp [go_sem]) rfl, trivial⟩ ?_
  intro f6 s6 W6 hB6 g6 hg6 z6
  have fB6 := hB6.f fB5
  have b6_0 := hB6.b b5_0
  have b6_1 := hB6.b b5_1
  have b6_2 := hB6.b b5_2
  have b6_3 := hB6.b b5_3
  have b6_4 := hB6.b nb5
  have k6_3 := kt hg6 3 (kt hg4 3 k3_3)
  have k6_4 := kt hg6 4 (kt hg4 4 (kt hg3 4 (kt hg2 4 (kt hg1 4 r1_2))))
  have k6_5 := kt hg6 5 (kt hg4 5 (kt hg3 5 (kt hg2 5 (kt hg1 5 r1_3))))
  have k6_7 := kt hg6 7 k4_7
  have k6_26 := kt hg6 26 (hB6.is 3)
  have k6_27 := kt hg6 27 (hB6.is 4)
  refine wp_block ?_
  refine wp_loop_n (fun m_ a_ W_ => ∃ Ds : List Nat, ∃ g_ : Nat → Value, a_ = frD (Ds.map mkD) 47 g_ ∧ (∃ k : Nat, m_ = n + 1 - k ∧ g_ 3 = .pointer (some ⟨(s1 1), 0, none⟩) ∧ g_ 4 = .pointer (some ⟨(s1 2), 0, none⟩) ∧ g_ 5 = .pointer (some ⟨(s1 3), 0, none⟩) ∧ g_ 7 = .pointer (some ⟨(s4 4), 0, none⟩) ∧ g_ 26 = .int .i64 ((n : Int) + 1) ∧ g_ 27 = .int .i64 ((k : Int)) ∧ Below w.heap.size w W_ ∧ W6.heap.size ≤ W_.heap.size ∧ W_.heap[(s1 0)]? = some (.cells #[.int .i64 nu, .int .i64 de, .int .i64 tl, .slice ra n c] 80 (0, 0)) ∧ W_.heap[(s1 1)]? = some (.cells #[.slice qa m cq] 71 (0, 0)) ∧ W_.heap[(s1 2)]? = some (.cells #[.slice none 0 0] 25 (0, 0)) ∧ W_.heap[(s1 3)]? = some (.cells #[.int .i64 0] 37 (0, 0)) ∧ W_.heap[(s4 4)]? = some (.cells #[.int .i64 nu, .int .i64 de, .int .i64 tl, .slice ra n c, .slice qa m cq] 130 (0, 0)) ∧ MarksOk W_ Ds ∧ (∀ D ∈ Ds, w.heap.size ≤ D) ∧ (k ≤ n + 1))) ⟨_, [], g6, rfl, 0, rfl, k6_3, k6_4, k6_5, k6_7, k6_26, k6_27.trans (by rfl), fB6, Nat.le_refl _, b6_0, b6_1, b6_2, b6_3, b6_4, ⟨List.Pairwise.nil, fun _ h => nomatch h⟩, (fun _ h => nomatch h), (by omega)⟩ ?_
  rintro _ _ W_11 ⟨Ds, g_11, rfl, k, rfl, k_11_3, k_11_4, k_11_5, k_11_7, k_11_26, k_11_27, fB_11, z_11, b_11_0, b_11_1, b_11_2, b_11_3, b_11_4, q12', lk0, lk1⟩
  have hDs_ := lk0
  refine wp_seq_k fun K9 hK9 => ?_
  refine region_doD 1 [(28, 0)] [[]] (rel [is (.bool (decide ((k : Int) < ((n : Int) + 1))))]) (by kernel_rfl) (by kernel_rfl) (by kernel_rfl) (by kernel_rfl)
    ⟨is_k, trivial⟩
    ⟨fun f s W d l q u x a => opv rfl rfl (by simp [go_sem, a.e 27 k_11_27, a.e 26 k_11_26]) rfl, trivial⟩ ?_
  intro f7 s7 W7 hB7
  have fB7 := hB7.f fB_11
  have z7 := hB7.below.size
  have b7_2 := hB7.b b_11_2
  have b7_3 := hB7.b b_11_3
  have q13' := (MarksOk.below q12' hB7.below)
  refine hK9 _ _ ?_
  generalize hg7 : ov [(28, 0)] f7 g_11 = g7
  have k7_3 := kt hg7 3 k_11_3
  have k7_4 := kt hg7 4 k_11_4
  have k7_5 := kt hg7 5 k_11_5
  have k7_7 := kt hg7 7 k_11_7
  have k7_26 := kt hg7 26 k_11_26
  have k7_27 := kt hg7 27 k_11_27
  have k7_28 := kt hg7 28 (hB7.is 0)
  refine wp_seq_k fun K10 hK10 => ?_
  refine wp_cond_split (t := decide ((k : Int) < ((n : Int) + 1))) (show (fr 47 g7).eval _ = _ from (fr_eval rfl).trans k7_28) (fun hc11 => ?_) (fun hc11 => ?_)
  ·
    have hc11' := hc11; try simp only [ba] at hc11'
    have hkn : k < n + 1 := by omega
    refine wp_skip ?_
    refine hK10 _ _ ?_
    refine wp_seq_k fun K12 hK12 => ?_
    refine wp_block ?_
    refine wp_seq_k fun K13 hK13 => ?_
    refine region_doD 2 [(29, 0), (8, 1)] [[], [0]] (rel [is (.int .i64 ((k : Int))),
      is (.int .i64 ((k : Int)))]) (by kernel_rfl) (by kernel_rfl) (by kernel_rfl) (by kernel_rfl)
      ⟨is_k, is_k, trivial⟩
      ⟨fun f s W d l q u x a => opv rfl rfl (by simp [go_sem, a.e 27 k7_27]) rfl,
    fun f s W d l q u x a => opv rfl rfl (by simp [go_sem, a.e 29 (l 0 rfl)]) rfl, trivial⟩ ?_
    intro f8 s8 W8 hB8
    have z8 := hB8.below.size
    have b8_4 := hB8.b (hB7.b b_11_4)
    have q14' := (MarksOk.below q13' hB8.below)
    refine hK13 _ _ ?_
    generalize hg8 : ov [(29, 0), (8, 1)] f8 g7 = g8
    have k8_7 := kt hg8 7 k7_7
    have k8_8 := kt hg8 8 (hB8.is 1)
    refine wp_seq_k fun K14 hK14 => ?_
    refine region_doD 3 [(30, 0), (31, 1), (32, 2)] [[], [], [0, 1]] (rel [is (.agg #[.int .i64 nu, .int .i64 de, .int .i64 tl, .slice ra n c, .slice qa m cq]),
      is (.int .i64 ((k : Int))),
      ab fun v W => IsLs W8.heap.size nu de tl ra n c qa m cq k v W]) (by kernel_rfl) (by kernel_rfl) (by kernel_rfl) (by kernel_rfl)
      ⟨is_k, is_k, ab_k fun v W W' hb h => (IsLs.below h hb), trivial⟩
      ⟨fun f s W d l q u x a => opl rfl rfl rfl (a.v 7 k8_7) (bwb b8_4 d) Try.underlying130 rfl (by kernel_rfl) rfl,
    fun f s W d l q u x a => opv rfl rfl (by simp [go_sem, a.e 8 k8_8]) rfl,
    fun f s W d l q u x a => opd rfl rfl (by simp [go_sem, a.e 30 (l 0 rfl), a.e 31 (l 1 rfl)]) (ro_lists nu de tl ra n c qa m cq k W) ((fun e W' h => by obtain ⟨v, e1, ⟨b1_, b2_, e2, h1, h2, h3, h4⟩, h5⟩ := h; exact ⟨_, e1, h5, ⟨b1_, b2_, e2, h1, h2, Nat.le_trans d.size h3, Nat.le_trans d.size h4⟩⟩)), trivial⟩ ?_
    intro f9 s9 W9 hB9
    have fB9 := hB9.f (hB8.f fB7)
    have z9 := hB9.below.size
    have b9_0 := hB9.b (hB8.b (hB7.b b_11_0))
    have b9_1 := hB9.b (hB8.b (hB7.b b_11_1))
    have b9_2 := hB9.b (hB8.b b7_2)
    have b9_3 := hB9.b (hB8.b b7_3)
    have b9_4 := hB9.b b8_4
    have q15' := (MarksOk.below q14' hB9.below)
    obtain ⟨b16', b17', r9_2, q18', q19', hlm_, hlp_⟩ := hB9.is 2
    refine hK14 _ _ ?_
    generalize hg9 : ov [(30, 0), (31, 1), (32, 2)] f9 g8 = g9
    have k9_3 := kt hg9 3 (kt hg8 3 k7_3)
    have k9_4 := kt hg9 4 (kt hg8 4 k7_4)
    have k9_5 := kt hg9 5 (kt hg8 5 k7_5)
    have k9_7 := kt hg9 7 k8_7
    have k9_26 := kt hg9 26 (kt hg8 26 k7_26)
    have k9_27 := kt hg9 27 (kt hg8 27 k7_27)
    have k9_32 := kt hg9 32 r9_2
    refine wp_block ?_
    have hbml_ := ltb q18'
    have hbpl_ := ltb q19'
    obtain ⟨VV, hV⟩ : ∃ V, W9.heap.size = V := ⟨_, rfl⟩
    have hVw_ : w.heap.size ≤ W9.heap.size := Below.size fB9
    obtain ⟨G0, hG0⟩ : ∃ G : Nat → Prop, G = fun b => b = (s1 2) ∨ b = (s1 3) := ⟨_, rfl⟩
    obtain ⟨PP, hP⟩ : ∃ P : Nat → (Nat → Prop) → World → Prop, P = fun (i : Nat) (G_ : Nat → Prop) (W_ : World) => W_.heap[(s1 2)]? = some (.cells #[.slice none 0 0] 25 (0, 0)) ∧ W_.heap[(s1 3)]? = some (.cells #[.int .i64 0] 37 (0, 0)) ∧ ∀ b, G_ b ↔ b = (s1 2) ∨ b = (s1 3) := ⟨_, rfl⟩
    obtain ⟨PS, hPS⟩ : ∃ P : (Nat → Prop) → World → Prop, P = fun (G_ : Nat → Prop) (W_ : World) => ∃ g_ c_ xs, W_.heap[(s1 2)]? = some (.cells #[.slice (some ⟨g_, 0, none⟩) (xs.length) c_] 25 (0, 0)) ∧ W_.heap[(s1 3)]? = some (.cells #[.int .i64 0] 37 (0, 0)) ∧ OwnR 3 1 VV xs.length (iis xs) g_ c_ W_ ∧ GoodL n xs ∧ xs.length ≤ n ∧ (fltB (badB nu de tl (pkS ss xs) xs.length lg) m) = false ∧ ∀ b, G_ b ↔ b = (s1 2) ∨ b = (s1 3) := ⟨_, rfl⟩
    obtain ⟨AA, hA⟩ : ∃ A : Nat → (Nat → Prop) → Act → World → Prop, A = fun (j : Nat) (G_ : Nat → Prop) (a' : Act) (W_ : World) => ∃ g' : Nat → Value, a' = fr 47 g' ∧ g' 3 = .pointer (some ⟨(s1 1), 0, none⟩) ∧ g' 4 = .pointer (some ⟨(s1 2), 0, none⟩) ∧ g' 5 = .pointer (some ⟨(s1 3), 0, none⟩) ∧ g' 7 = .pointer (some ⟨(s4 4), 0, none⟩) ∧ g' 26 = .int .i64 ((n : Int) + 1) ∧ g' 27 = .int .i64 ((k : Int)) ∧ ∃ gx_ cx_ xs, g' 9 = .slice (some ⟨gx_, 0, none⟩) (xs.length) cx_ ∧ OwnR 3 1 VV xs.length (iis xs) gx_ cx_ W_ ∧ GoodL n xs ∧ xs.length ≤ n := ⟨_, rfl⟩
    refine (wpIn_wide (n := 10)).1 (range_ge (n := 10) (gf := 82) (rcv := #[]) (lb := #[.pointer (some ⟨b16', 0, none⟩), .pointer (some ⟨b17', 0, none⟩)]) (show (fr 47 g9).eval _ = _ from (fr_eval rfl).trans k9_32) (enters_of Try.func82 (by kernel_rfl) rfl) (fun _ => True) (fun _ => True) (fun _ _ v W_ => ∃ g_ c_ xs, v = #[.slice (some ⟨g_, 0, none⟩) xs.length c_] ∧ OwnR 3 1 VV xs.length (iis xs) g_ c_ W_ ∧ GoodL n xs ∧ xs.length ≤ n) (fun i G v W h => by obtain ⟨_, _, _, rfl, _⟩ := h; rfl) (RgI w W9 G0 PP) (fun _ => False) (fun _ h => h.elim) ?hIst (RgS w W9 G0 PS) ?hSst G0 ?hG0b ?hit ?h0 AA ?hAp ?hassign ?hbody ?hdone ?hstop)
    case hIst =>
      refine rgI_stab hVw_ ?_
      subst hP hG0
      rintro i G W_ W' ⟨h1, h2, h6⟩ hk
      exact ⟨hk.block _ _ (fun e => e.2 ((h6 _).2 (.inl rfl))) h1, hk.block _ _ (fun e => e.2 ((h6 _).2 (.inr rfl))) h2, h6⟩
    case hSst =>
      refine rgS_stab hVw_ ?_
      subst hPS hG0
      rintro G W_ W' ⟨g_, c_, xs, h1, h2, h3, h4, h5, h6, h7⟩ hk
      exact ⟨g_, c_, xs, hk.block _ _ (fun e => e.2.2 _ _ _ h1) h1, hk.block _ _ (fun e => e.2.2 _ _ _ h2) h2, OwnR.sameT h3 hk.size (fun o ho => by obtain ⟨cu, hcu⟩ := h3.blkT; exact hk.block _ _ (fun e => e.2.2 _ _ _ hcu) ho), h4, h5, h6, h7⟩
    case hG0b => subst hG0; intro b hb; rcases hb with hb | hb <;> rw [hb]; exact ltb b9_2; exact ltb b9_3
    case hit =>
      intro l' W1 J' S' hl hl1 hb1 hJ's hS's hJ'I hS'I hY' hJ0'
      have hz1 := hb1.size
      have hJG' : ∀ i G W_, J' i G W_ → ∀ b, G b → w.heap.size ≤ b ∧ b < VV ∧ VV ≤ W_.heap.size ∧ b ≠ b16' ∧ b ≠ b17' := fun i G W_ h => by
        have h_ := hJ'I i G W_ h
        subst hP hG0
        obtain ⟨-, hk_, h1, h2, h6⟩ := h_
        have hz_ := hk_.size
        intro b hb
        rcases (h6 b).1 hb with hb | hb <;> exact ⟨by omega, by omega, by omega, by omega, by omega⟩
      have fB1' := fB9.trans (hb1.mono (Below.size fB9))
      have hSb' : ∀ G W_, S' G W_ → ∀ b, W1.heap.size ≤ b → ¬ G b := fun G W_ h b hb hg => by
        have h_ := (hS'I G W_ h).2.2
        rw [hPS] at h_
        obtain ⟨g_, c_, xs, h1, h2, h3, h4, h5, h6, h7⟩ := h_
        rcases (h7 b).1 hg with e | e <;> omega
      refine lists_it nu de tl ss ra n c k qa m cq hO gn (by omega) b16' b17' l' G0 J' S' W1 fB1' (bwb q18' hb1) (bwb q19' hb1) hJ's hS's (fun i G W_ h b hb => by have h_ := hJG' i G W_ h b hb; omega) (fun i G W_ h b hb => by have h_ := hJG' i G W_ h b hb; omega) hSb' hl1 (fun i G W_ hj q g c xs ho_ hl hg => hY' i G W_ _ trivial hj q ⟨g, c, xs, rfl, OwnR.lowT ho_ (by omega), hg, by omega⟩) hJ0'
    case h0 =>
      subst hP hG0
      exact ⟨fB9, KeepP.refl _ _, b9_2, b9_3, fun b => Iff.rfl⟩
    case hAp =>
      subst hA
      rintro j G_ a' X r o hl ⟨g', h1, u3, u4, u5, u7, u26, u27, gx_, cx_, xs, h3, h4, h5⟩
      refine ⟨g', h1, u3, u4, u5, u7, u26, u27, gx_, cx_, xs, h3, OwnR.sameT h4 (by rw [putObj_size]; exact Nat.le_refl _) (fun o' ho' => (World.putObj_heap_other (fun e => ?_)).trans ho'), h5⟩
      obtain ⟨cu, hcu⟩ := h4.blkT
      rw [e, hl] at hcu; cases hcu
    case hassign =>
      intro l' j G_ X v K hj hIX hsz hE hK
      obtain ⟨gx_, cx_, xs, rfl, hox_, hgx_, hlx_⟩ := hE
      have e : ({ tmps := ((#[33] : Array Tmp).zip #[.slice (some ⟨gx_, 0, none⟩) (xs.length) cx_]).foldl (fun t (p, v) => t.setIfInBounds p v) (fr 47 g9).tmps, defers := [] } : Act) = fr 47 (upd g9 33 (.slice (some ⟨gx_, 0, none⟩) (xs.length) cx_)) := by
        rw [foldl_1r, ← fr_set]
      rw [show (frD (Ds.map mkD) 47 g9 : Act).tmps = (fr 47 g9).tmps from rfl, e]
      obtain ⟨g7, hg7⟩ : ∃ g7, (upd g9 33 (.slice (some ⟨gx_, 0, none⟩) (xs.length) cx_)) = g7 := ⟨_, rfl⟩
      rw [hg7]
      have k7_3 : g7 3 = .pointer (some ⟨(s1 1), 0, none⟩) := ku hg7 3 k9_3
      have k7_4 : g7 4 = .pointer (some ⟨(s1 2), 0, none⟩) := ku hg7 4 k9_4
      have k7_5 : g7 5 = .pointer (some ⟨(s1 3), 0, none⟩) := ku hg7 5 k9_5
      have k7_7 : g7 7 = .pointer (some ⟨(s4 4), 0, none⟩) := ku hg7 7 k9_7
      have k7_26 : g7 26 = .int .i64 ((n : Int) + 1) := ku hg7 26 k9_26
      have k7_27 : g7 27 = .int .i64 ((k : Int)) := ku hg7 27 k9_27
      have k7_33 : g7 33 = .slice (some ⟨gx_, 0, none⟩) (xs.length) cx_ := kt hg7 33 (upd_same _ _ _)
      have hbX : Below w.heap.size w X := hIX.1
      have hzX : W9.heap.size ≤ X.heap.size := hIX.2.1.size
      refine region_doI (by repeat (first | exact noOut_false | refine noOut_then ?_ | refine noOut_block ?_)) (by kernel_rfl) 1 [(9, 0)] [[]] (rel [is (.slice (some ⟨gx_, 0, none⟩) (xs.length) cx_)]) (by kernel_rfl) (by kernel_rfl) (by kernel_rfl) (by kernel_rfl)
        ⟨is_k, trivial⟩
        ⟨fun f s W d l q u x a => opv rfl rfl (by simp [go_sem, a.e 33 k7_33]) rfl, trivial⟩ ?_
      intro f21 s21 W21 hB21
      have fB21 := hB21.f hbX
      have z21 := hB21.below.size
      have q20' := (bwt (Below.refl X.heap.size X) hB21.below)
      refine wpe ?_
      generalize hg21 : ov [(9, 0)] f21 g7 = g21
      have k21_3 := kt hg21 3 k7_3
      have k21_4 := kt hg21 4 k7_4
      have k21_5 := kt hg21 5 k7_5
      have k21_7 := kt hg21 7 k7_7
      have k21_26 := kt hg21 26 k7_26
      have k21_27 := kt hg21 27 k7_27
      have k21_9 := kt hg21 9 (hB21.is 0)
      have hbe_ := q20'
      refine hK _ _ hbe_ ?_
      subst hA
      exact ⟨_, rfl, k21_3, k21_4, k21_5, k21_7, k21_26, k21_27, gx_, cx_, xs, k21_9, OwnR.below hox_ hbe_, hgx_, hlx_⟩
    case hbody =>
      intro l' j G_ a' X hj hIX hAX
      have hIX' := hIX
      subst hA
      obtain ⟨h1X, h2X, hPX⟩ := hIX
      obtain ⟨g7, rfl, k7_3, k7_4, k7_5, k7_7, k7_26, k7_27, gx_, cx_, xs, k7_9, hox_, hgx_, hlx_⟩ := hAX
      have hzX := h2X.size
      have cb0 : X.heap[(s1 0)]? = some (.cells #[.int .i64 nu, .int .i64 de, .int .i64 tl, .slice ra n c] 80 (0, 0)) := h2X.block _ _ (by subst hG0; intro e_; rcases e_ with e_ | e_ <;> omega) b9_0
      have cl0 := ltb cb0
      have cb1 : X.heap[(s1 1)]? = some (.cells #[.slice qa m cq] 71 (0, 0)) := h2X.block _ _ (by subst hG0; intro e_; rcases e_ with e_ | e_ <;> omega) b9_1
      have cl1 := ltb cb1
      have cb4 : X.heap[(s4 4)]? = some (.cells #[.int .i64 nu, .int .i64 de, .int .i64 tl, .slice ra n c, .slice qa m cq] 130 (0, 0)) := h2X.block _ _ (by subst hG0; intro e_; rcases e_ with e_ | e_ <;> omega) b9_4
      have cl4 := ltb cb4
      subst hP
      obtain ⟨h1P, h2P, h6X⟩ := hPX
      have hlb4_ := ltb h1P; have hlb5_ := ltb h2P
      have hGm_ : ∀ b, (b = (s1 2) ∨ b = (s1 3)) → G_ b := fun b hb => (h6X b).2 hb
      refine wpIn_block ?_
      refine wpIn_seq_k fun K1 hK1 => ?_
      refine region_doI (by repeat (first | refine noOut_then ?_ | refine noOut_block ?_ | exact fun ⟨_, _, e⟩ => e.elim (fun e => nomatch e.1) (fun e => nomatch e.1))) (by kernel_rfl) 12 [(35, 0), (36, 1), (37, 2), (38, 3), (39, 4), (34, 5), (40, 6), (41, 7), (42, 8), (10, 9), (11, 10), (12, 11)] [[], [], [0, 1], [], [0, 1, 2, 3], [0, 1, 2, 3, 4], [0, 1, 2, 3, 4, 5], [0, 1, 2, 3, 4, 5], [0, 1, 2, 3, 4, 5], [0, 1, 2, 3, 4, 5, 6], [0, 1, 2, 3, 4, 5, 6, 7, 9], [0, 1, 2, 3, 4, 5, 6, 7, 8, 9, 10]] (rel [is (.agg #[.int .i64 nu, .int .i64 de, .int .i64 tl, .slice ra n c, .slice qa m cq]),
      is (.slice (some ⟨gx_, 0, none⟩) (xs.length) cx_),
      ab fun v W => IsStd nu de tl xs.length (pkS ss xs) v W,
      is (.slice qa m cq),
      ab fun v W => ∃ x0 x1, v = .tuple #[x0, x1, .bool ((fltB (badB nu de tl (pkS ss xs) xs.length lg) m))] ∧ IsI x0 ∧ IsI x1,
      ab fun v W => ∃ x0 x1, v = .tuple #[x0, x1, .bool ((fltB (badB nu de tl (pkS ss xs) xs.length lg) m))] ∧ IsI x0 ∧ IsI x1,
      ab fun v W => IsI v,
      ab fun v W => IsI v,
      is (.bool ((fltB (badB nu de tl (pkS ss xs) xs.length lg) m))),
      ab fun v W => IsI v,
      ab fun v W => IsI v,
      is (.bool ((fltB (badB nu de tl (pkS ss xs) xs.length lg) m)))]) (by kernel_rfl) (by kernel_rfl) (by kernel_rfl) (by kernel_rfl)
        ⟨is_k, is_k, ab_k fun v W W' hb h => (IsStd.below h hb), is_k, ab_k fun v W W' hb ⟨x0, x1, e, h0, h1⟩ => ⟨x0, x1, e, h0, h1⟩, ab_k fun v W W' hb ⟨x0, x1, e, h0, h1⟩ => ⟨x0, x1, e, h0, h1⟩, ab_k fun v W W' hb h => h, ab_k fun v W W' hb h => h, is_k, ab_k fun v W W' hb h => h, ab_k fun v W W' hb h => h, is_k, trivial⟩
        ⟨fun f s W d l q u x a => opl rfl rfl rfl (a.v 7 k7_7) (bwb cb4 d) Try.underlying130 rfl (by kernel_rfl) rfl,
    fun f s W d l q u x a => opv rfl rfl (by simp [go_sem, a.e 9 k7_9]) rfl,
    fun f s W d l q u x a => by have y := bwt h1X d; exact opd (args := #[.agg #[.int .i64 nu, .int .i64 de, .int .i64 tl, .slice ra n c, .slice qa m cq], .slice (some ⟨gx_, 0, none⟩) (xs.length) cx_]) rfl rfl (by simp [go_sem, a.e 35 (l 0 rfl), a.e 36 (l 1 rfl)]) (ro_picked nu de tl ss ra n c qa m cq xs VV gx_ cx_ W (hO.below y) gn hgx_ (by omega) ((OwnR.below hox_ d))) ((fun e W' h => by obtain ⟨a_, c_, e1, h1, h2⟩ := h; exact ⟨_, e1, h2, ⟨a_, c_, rfl, h1⟩⟩)),
    fun f s W d l q u x a => opv rfl rfl (by simp [go_sem, a.e 3 k7_3, cb cb1 d 0]) rfl,
    fun f s W d l q u x a => by obtain ⟨a21', c22', d2, q23'⟩ := (l 2 rfl); have y := bwt h1X d; exact opd rfl rfl (by simp [go_sem, a.e 37 d2, a.e 38 (l 3 rfl)]) (ro_fault nu de tl (pkS ss xs) (a21') xs.length c22' lg qa m cq W hU (hQ.below y) hq gm q23' (pkS_in ho hgx_) (by omega) hU.t) ((fun e W' h => by obtain ⟨o_, s_, e1, h2⟩ := h; exact ⟨_, e1, h2, ⟨_, _, rfl, ⟨_, rfl⟩, ⟨_, rfl⟩⟩⟩)),
    fun f s W d l q u x a => opv (v := (f 4)) rfl rfl (by simp [go_sem, (a.at' 39 rfl : x.tmps[39]?.getD undef = f 4)] <;> rfl) (l 4 rfl),
    fun f s W d l q u x a => by obtain ⟨x5_0, x5_1, d5, p5_0, p5_1⟩ := (l 5 rfl); exact opv (v := x5_0) rfl rfl (by simp [go_sem, a.e 34 d5]) p5_0,
    fun f s W d l q u x a => by obtain ⟨x5_0, x5_1, d5, p5_0, p5_1⟩ := (l 5 rfl); exact opv (v := x5_1) rfl rfl (by simp [go_sem, a.e 34 d5]) p5_1,
    fun f s W d l q u x a => by obtain ⟨x5_0, x5_1, d5, p5_0, p5_1⟩ := (l 5 rfl); exact opv rfl rfl (by simp [go_sem, a.e 34 d5]) rfl,
    fun f s W d l q u x a => opv (v := (f 6)) rfl rfl (by simp [go_sem, (a.at' 40 rfl : x.tmps[40]?.getD undef = f 6)] <;> rfl) (l 6 rfl),
    fun f s W d l q u x a => opv (v := (f 7)) rfl rfl (by simp [go_sem, (a.at' 41 rfl : x.tmps[41]?.getD undef = f 7)] <;> rfl) (l 7 rfl),
    fun f s W d l q u x a => opv rfl rfl (by simp [go_sem, a.e 42 (l 8 rfl)]) rfl, trivial⟩ ?_
      intro f61 s61 W61 hB61
      have fB61 := hB61.f h1X
      have z61 := hB61.below.size
      have b61_3 := hB61.b h1P
      have b61_4 := hB61.b h2P
      have q26' := (KeepP.trans (KeepP.refl G_ X) (KeepP.of_below hB61.below))
      have q27' := (OwnR.below hox_ hB61.below)
      refine hK1 _ _ ?_
      generalize hg61 : ov [(35, 0), (36, 1), (37, 2), (38, 3), (39, 4), (34, 5), (40, 6), (41, 7), (42, 8), (10, 9), (11, 10), (12, 11)] f61 g7 = g61
      have k61_4 := kt hg61 4 k7_4
      have k61_5 := kt hg61 5 k7_5
      have k61_9 := kt hg61 9 k7_9
      have k61_12 := kt hg61 12 (hB61.is 11)
      refine wpIn_seq_k fun K2 hK2 => ?_
      refine region_doI (by repeat (first | refine noOut_then ?_ | refine noOut_block ?_ | exact fun ⟨_, _, e⟩ => e.elim (fun e => nomatch e.1) (fun e => nomatch e.1))) (by kernel_rfl) 2 [(43, 0), (44, 1)] [[], [0]] (rel [is (.bool ((fltB (badB nu de tl (pkS ss xs) xs.length lg) m))),
      is (.bool (!((fltB (badB nu de tl (pkS ss xs) xs.length lg) m))))]) (by kernel_rfl) (by kernel_rfl) (by kernel_rfl) (by kernel_rfl)
        ⟨is_k, is_k, trivial⟩
        ⟨fun f s W d l q u x a => opv rfl rfl (by simp [go_sem, a.e 12 k61_12]) rfl,
    fun f s W d l q u x a => opv rfl rfl (by simp [go_sem, a.e 43 (l 0 rfl)]) rfl, trivial⟩ ?_
      intro f62 s62 W62 hB62
      have fB62 := hB62.f fB61
      have z62 := hB62.below.size
      have b62_3 := hB62.b b61_3
      have b62_4 := hB62.b b61_4
      have q28' := (KeepP.trans q26' (KeepP.of_below hB62.below))
      have q29' := (OwnR.below q27' hB62.below)
      refine hK2 _ _ ?_
      generalize hg62 : ov [(43, 0), (44, 1)] f62 g61 = g62
      have k62_9 := kt hg62 9 k61_9
      have k62_44 := kt hg62 44 (hB62.is 1)
      refine wpIn_cond_split (t := !((fltB (badB nu de tl (pkS ss xs) xs.length lg) m))) ((fr_eval rfl).trans k62_44) (fun hc3 => ?_) (fun hc3 => ?_)
      ·
        have hc3' := hc3; try simp only [ba] at hc3'
        have hfl_ : (fltB (badB nu de tl (pkS ss xs) xs.length lg) m) = false := by simpa using hc3
        refine wpIn_seq_k fun K4 hK4 => ?_
        refine region_doI (by repeat (first | refine noOut_then ?_ | refine noOut_block ?_ | exact fun ⟨_, _, e⟩ => e.elim (fun e => nomatch e.1) (fun e => nomatch e.1))) (by kernel_rfl) 1 [(45, 0)] [[], [0], [0, 1]] (rel [is (.slice (some ⟨gx_, 0, none⟩) (xs.length) cx_)]) (by kernel_rfl) (by kernel_rfl) (by kernel_rfl) (by kernel_rfl)
          ⟨is_k, trivial⟩
          ⟨fun f s W d l q u x a => opv rfl rfl (by simp [go_sem, a.e 9 k62_9]) rfl, trivial⟩ ?_
        intro f63 s63 W63 hB63
        have fB63 := hB63.f fB62
        have z63 := hB63.below.size
        have b63_3 := hB63.b b62_3
        have b63_4 := hB63.b b62_4
        have q30' := (KeepP.trans q28' (KeepP.of_below hB63.below))
        have q31' := (OwnR.below q29' hB63.below)
        generalize hg63 : ov [(45, 0)] f63 g62 = g63
        have k63_4 := kt hg63 4 (kt hg62 4 k61_4)
        have k63_5 := kt hg63 5 (kt hg62 5 k61_5)
        have k63_45 := kt hg63 45 (hB63.is 0)
        obtain ⟨W64, hW64⟩ : ∃ W', W' = W63.setRow (s1 2) #[.slice (some ⟨gx_, 0, none⟩) (xs.length) cx_] := ⟨_, rfl⟩
        refine tsk (o := _) rfl ⟨rfl, rfl⟩ (run_seg hW64 (fr_ev k63_4) (fr_ev k63_45) b63_3 rfl rfl rfl rfl) ?_
        obtain ⟨fB64, nb64, ot64, z64⟩ := sgf hW64 fB63 b63_3 (by omega)
        have q32' := (KeepP.trans q30' (keepX_P (keepX_row hW64) (by first | exact hGm_ _ rfl | exact hGm_ _ (.inl rfl) | exact hGm_ _ (.inr rfl) | exact hGm_ _ (.inr (.inl rfl)) | exact hGm_ _ (.inr (.inr rfl)) | omega)))
        clear hW64
        have b64_4 := ot64 _ _ (by omega) b63_4
        have q33' := (OwnR.other q31' ot64 (ownN_ne (.inr ⟨_, rfl, q31'⟩) b63_3 (by decide) _ rfl) z64)
        obtain ⟨W65, hW65⟩ : ∃ W', W' = W64.setRow (s1 3) #[.int .i64 0] := ⟨_, rfl⟩
        refine tsk (o := _) rfl ⟨rfl, rfl⟩ (run_seg hW65 (fr_ev k63_5) (rfl) b64_4 rfl rfl rfl rfl) ?_
        obtain ⟨fB65, nb65, ot65, z65⟩ := sgf hW65 fB64 b64_4 (by omega)
        have q34' := (KeepP.trans q32' (keepX_P (keepX_row hW65) (by first | exact hGm_ _ rfl | exact hGm_ _ (.inl rfl) | exact hGm_ _ (.inr rfl) | exact hGm_ _ (.inr (.inl rfl)) | exact hGm_ _ (.inr (.inr rfl)) | omega)))
        clear hW65
        have b65_3 := ot65 _ _ (by omega) nb64
        have q35' := (OwnR.other q33' ot65 (ownN_ne (.inr ⟨_, rfl, q33'⟩) b64_4 (by decide) _ rfl) z65)
        refine wpe ?_
        refine hK4 _ _ ?_
        refine wpIn_ret ?_
        refine inBlock_ret ?_
        exact .inr ⟨rfl, G_, ⟨fB65, h2X.trans (KeepP.more q34' fun b hb => by subst hG0; exact .inl ((h6X b).1 hb)), by rw [hPS]; exact ⟨_, _, _, b65_3, nb65, q35', hgx_, hlx_, hfl_, h6X⟩⟩, q34', fun b hb => .inl hb⟩
      ·
        have hc3' := hc3; try simp only [ba] at hc3'
        refine wpIn_skip ?_
        refine ibn ?_
        exact .inl ⟨rfl, G_, ⟨fB62, h2X.trans (KeepP.more q28' fun b hb => by subst hG0; exact .inl ((h6X b).1 hb)), b62_3, b62_4, h6X⟩, q28', fun b hb => .inl hb⟩
    case hstop =>
      intro D G' Z hD hnD hIZ hdZ
      obtain ⟨h1Z, h2Z, hPZ⟩ := hIZ
      have eD : ({ (frD (Ds.map mkD) 47 g9) with defers := { target := .collected D, args := #[] } :: (frD (Ds.map mkD) 47 g9).defers } : Act) = frD (mkD D :: (Ds.map mkD)) 47 g9 := rfl
      rw [eD]
      have hzZ := h2Z.size
      have cz0 : Z.heap[(s1 0)]? = some (.cells #[.int .i64 nu, .int .i64 de, .int .i64 tl, .slice ra n c] 80 (0, 0)) := h2Z.block _ _ (by subst hG0; intro e_; rcases e_ with e_ | e_ <;> omega) b9_0
      have cz1 : Z.heap[(s1 1)]? = some (.cells #[.slice qa m cq] 71 (0, 0)) := h2Z.block _ _ (by subst hG0; intro e_; rcases e_ with e_ | e_ <;> omega) b9_1
      have cz4 : Z.heap[(s4 4)]? = some (.cells #[.int .i64 nu, .int .i64 de, .int .i64 tl, .slice ra n c, .slice qa m cq] 130 (0, 0)) := h2Z.block _ _ (by subst hG0; intro e_; rcases e_ with e_ | e_ <;> omega) b9_4
      have hMZ_ : MarksOk Z (D :: Ds) := by
        have hM0_ := q15'
        have hMz_ : MarksOk Z Ds := ⟨hM0_.1, fun E hE => h2Z.block _ _ (fun e => by subst hG0; rcases e with (e | e) | e; (exact hM0_.ne b9_2 (e ▸ hE)); (exact hM0_.ne b9_3 (e ▸ hE)); (have := (Array.getElem?_eq_some_iff.1 (hM0_.2 E hE)).1; omega)) (hM0_.2 E hE)⟩
        refine ⟨List.pairwise_cons.2 ⟨fun E hE e => ?_, hM0_.1⟩, fun E hE => ?_⟩
        · have := (Array.getElem?_eq_some_iff.1 (hM0_.2 E hE)).1; omega
        · rcases List.mem_cons.1 hE with rfl | hE
          · exact hdZ
          · exact hMz_.2 E hE
      have hDsZ_ : ∀ E ∈ (D :: Ds), w.heap.size ≤ E := fun E hE => by rcases List.mem_cons.1 hE with rfl | hE; omega; exact hDs_ E hE
      subst hPS
      obtain ⟨gx_, cx_, xs, h1P, h2P, h3P, hgx_, hlx_, hfl_, h6Z⟩ := hPZ
      refine inBlock_ret (inBlock_ret (then_ret (then_ret (inBlock_ret (then_ret ?_)))))
      refine leave_marksC (v := .tuple #[.slice (some ⟨gx_, 0, none⟩) (xs.length) cx_, .int .i64 0]) (Ds := (D :: Ds)) (.inr rfl) rfl hMZ_ (fun W_ hk_ => by simp [results, Try.results17, go_sem, frv 47 k9_4, cl (hk_.cellsM hMZ_ h1P) 0, frv 47 k9_5, cl (hk_.cellsM hMZ_ h2P) 0]) fun W_ hk_ => ?_
      have fBL := Below.trans h1Z (hk_.below (fun b hb => hDsZ_ b hb) (Below.size h1Z))
      exact ⟨.inr ⟨xs, _, _, rfl, OwnR.sameT h3P hk_.size (fun o ho => hk_.block _ _ (fun e => by obtain ⟨cu, hcu⟩ := OwnR.blkT h3P; exact hMZ_.ne hcu e) ho) |> fun h_ => OwnR.lowT h_ (by omega), hgx_, hlx_, hfl_⟩, fBL⟩
    case hdone =>
      intro D i' G' Z hD hnD hfin hIZ hdZ
      obtain ⟨h1Z, h2Z, hPZ⟩ := hIZ
      have eD : ({ (frD (Ds.map mkD) 47 g9) with defers := { target := .collected D, args := #[] } :: (frD (Ds.map mkD) 47 g9).defers } : Act) = frD (mkD D :: (Ds.map mkD)) 47 g9 := rfl
      rw [eD]
      have hzZ := h2Z.size
      have cz0 : Z.heap[(s1 0)]? = some (.cells #[.int .i64 nu, .int .i64 de, .int .i64 tl, .slice ra n c] 80 (0, 0)) := h2Z.block _ _ (by subst hG0; intro e_; rcases e_ with e_ | e_ <;> omega) b9_0
      have cz1 : Z.heap[(s1 1)]? = some (.cells #[.slice qa m cq] 71 (0, 0)) := h2Z.block _ _ (by subst hG0; intro e_; rcases e_ with e_ | e_ <;> omega) b9_1
      have cz4 : Z.heap[(s4 4)]? = some (.cells #[.int .i64 nu, .int .i64 de, .int .i64 tl, .slice ra n c, .slice qa m cq] 130 (0, 0)) := h2Z.block _ _ (by subst hG0; intro e_; rcases e_ with e_ | e_ <;> omega) b9_4
      have hMZ_ : MarksOk Z (D :: Ds) := by
        have hM0_ := q15'
        have hMz_ : MarksOk Z Ds := ⟨hM0_.1, fun E hE => h2Z.block _ _ (fun e => by subst hG0; rcases e with (e | e) | e; (exact hM0_.ne b9_2 (e ▸ hE)); (exact hM0_.ne b9_3 (e ▸ hE)); (have := (Array.getElem?_eq_some_iff.1 (hM0_.2 E hE)).1; omega)) (hM0_.2 E hE)⟩
        refine ⟨List.pairwise_cons.2 ⟨fun E hE e => ?_, hM0_.1⟩, fun E hE => ?_⟩
        · have := (Array.getElem?_eq_some_iff.1 (hM0_.2 E hE)).1; omega
        · rcases List.mem_cons.1 hE with rfl | hE
          · exact hdZ
          · exact hMz_.2 E hE
      have hDsZ_ : ∀ E ∈ (D :: Ds), w.heap.size ≤ E := fun E hE => by rcases List.mem_cons.1 hE with rfl | hE; omega; exact hDs_ E hE
      subst hP
      obtain ⟨h1P, h2P, h6Z⟩ := hPZ
      refine ibn ?_
      refine ibn ?_
      refine hK12 _ _ ?_
      refine region_doD 2 [(46, 0), (27, 1)] [[], [0]] (rel [is (.int .i64 ((k : Int) + 1)),
      is (.int .i64 ((k : Int) + 1))]) (by kernel_rfl) (by kernel_rfl) (by kernel_rfl) (by kernel_rfl)
        ⟨is_k, is_k, trivial⟩
        ⟨fun f s W d l q u x a => opv rfl rfl (by simp [go_sem, a.e 27 ((u 1 27 rfl rfl).trans k9_27), IntWalk.i64_in ((k : Int) + 1) (by omega)]) rfl,
    fun f s W d l q u x a => opv rfl rfl (by simp [go_sem, a.e 46 (l 0 rfl)]) rfl, trivial⟩ ?_
      intro f10 s10 W10 hB10
      have fB10 := hB10.f h1Z
      have z10 := hB10.below.size
      have b10_0 := hB10.b cz0
      have b10_1 := hB10.b cz1
      have b10_2 := hB10.b cz4
      have b10_3 := hB10.b h1P
      have b10_4 := hB10.b h2P
      have q36' := (MarksOk.below hMZ_ hB10.below)
      refine wpe ?_
      generalize hg10 : ov [(46, 0), (27, 1)] f10 g9 = g10
      have k10_3 := kt hg10 3 k9_3
      have k10_4 := kt hg10 4 k9_4
      have k10_5 := kt hg10 5 k9_5
      have k10_7 := kt hg10 7 k9_7
      have k10_26 := kt hg10 26 k9_26
      have k10_27 := kt hg10 27 (hB10.is 1)
      refine then_normal ?_
      exact ⟨_, by omega, (D :: Ds), g10, rfl, k + 1, rfl, k10_3, k10_4, k10_5, k10_7, k10_26, k10_27.trans (by go_num), fB10, (by omega), b10_0, b10_1, b10_3, b10_4, b10_2, q36', hDsZ_, (by omega)⟩
  ·
    have hc11' := hc11; try simp only [ba] at hc11'
    have hkn : k = n + 1 := by omega
    refine wp_exit ?_
    refine then_exit ?_
    refine then_exit ?_
    refine inBlock_at ?_
    refine hK7 _ _ ?_
    refine wp_seq_k fun K15 hK15 => ?_
    refine region_doD 0 [] [[], [0]] (rel []) (by kernel_rfl) (by kernel_rfl) (by kernel_rfl) (by kernel_rfl) trivial trivial ?_
    intro f11 s11 W11 hB11
    have fB11 := hB11.f fB7
    have z11 := hB11.below.size
    have b11_2 := hB11.b b7_2
    have b11_3 := hB11.b b7_3
    have q37' := (MarksOk.below q13' hB11.below)
    generalize hg11 : ov [] f11 g7 = g11
    have k11_4 := kt hg11 4 k7_4
    have k11_5 := kt hg11 5 k7_5
    obtain ⟨W12, hW12⟩ : ∃ W', W' = W11.setRow (s1 2) #[.slice none 0 0] := ⟨_, rfl⟩
    refine tail_skipD (o := _) rfl ⟨rfl, rfl⟩ (run_seg hW12 (fr_ev k11_4) (rfl) b11_2 rfl rfl rfl rfl) ?_
    obtain ⟨fB12, nb12, ot12, z12⟩ := sgf hW12 fB11 b11_2 (by omega)
    have q38' := (MarksOk.setRow q37' b11_2 hW12)
    clear hW12
    have b12_3 := ot12 _ _ (by omega) b11_3
    obtain ⟨W13, hW13⟩ : ∃ W', W' = W12.setRow (s1 3) #[.int .i64 9] := ⟨_, rfl⟩
    refine tail_skipD (o := _) rfl ⟨rfl, rfl⟩ (run_seg hW13 (fr_ev k11_5) (rfl) b12_3 rfl rfl rfl rfl) ?_
    obtain ⟨fB13, nb13, ot13, z13⟩ := sgf hW13 fB12 b12_3 (by omega)
    have q39' := (MarksOk.setRow q38' b12_3 hW13)
    clear hW13
    have b13_2 := ot13 _ _ (by omega) nb12
    refine wpe ?_
    refine hK15 _ _ ?_
    refine wp_ret ?_
    refine leave_marksC (v := .tuple #[.slice none 0 0, .int .i64 9]) (Ds := Ds) (.inr rfl) rfl q39' (fun W_ hk_ => by simp [results, Try.results17, go_sem, frv 47 k11_4, cl (hk_.cellsM q39' b13_2) 0, frv 47 k11_5, cl (hk_.cellsM q39' nb13) 0]) fun W_ hk_ => ?_
    have fBL := Below.trans fB13 (hk_.below (fun b hb => hDs_ b hb) (Below.size fB13))
    exact ⟨.inl rfl, fBL⟩
end Go.Proofs.Ytcgccflcjejlhaa
