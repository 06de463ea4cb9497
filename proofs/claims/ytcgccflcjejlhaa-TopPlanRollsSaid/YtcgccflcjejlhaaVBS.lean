/- Part of the proof: what the claim leans on. -/
import Derived.Test.YtcgccflcjejlhaaVBR
set_option maxHeartbeats 16000000
set_option maxRecDepth 100000
set_option linter.unusedSimpArgs false
set_option linter.unusedVariables false
namespace Go.Proofs.Ytcgccflcjejlhaa
open Go.RowKit
theorem rolls_e (tl : Int) (ta : Option Addr) (nb cb : Nat) (bs : Nat → Int) (sp : Nat → Int × Int) (lg : Nat → Int) (m nq : Nat) (htl : 0 ≤ tl ∧ tl ≤ 49) (gm : m ≤ 3) (gnq : nq ≤ 5) (hq : ∀ i, i < m → RdIn (lg i)) (ho : ∀ i, i < nq → RoIn tl (sp i)) (hfl : fltB (badB 4 3 tl sp nq lg) m = false) (w0 w : World) (hbase_ : Below w0.heap.size w0 w) (hT : ByV w ta nb bs) (b21 b24 : Nat) (r21 ra qa ax : Option Addr) (n21 c21 c24 cq cx : Nat) (h21 : w.heap[b21]? = some (.cells #[.int .i64 4, .int .i64 3, .int .i64 tl, .slice r21 n21 c21] 80 (0, 0))) (h24 : w.heap[b24]? = some (.cells #[.int .i64 4, .int .i64 3, .int .i64 tl, .slice ra nq c24] 80 (0, 0))) (hO : SpL w ra nq sp) (hQ : RdL w qa m lg) (g : Nat → Value) (k_2 : g 2 = .slice ta nb cb) (k_16 : g 16 = .slice qa m cq) (k_17 : g 17 = .int .i64 ((bgF lg m))) (k_21 : g 21 = .pointer (some ⟨b21, 0, none⟩)) (k_22 : g 22 = .slice ax nq cx) (k_24 : g 24 = .pointer (some ⟨b24, 0, none⟩)) :
  (tailC 14 (bodyC Try.f4)).wp Try.prog (bodyPost Try.prog Try.f4 (fun e w' => e = .returned (.bool true) ∧ Below w0.heap.size w0 w')) (fr 426 g) w := by
 have hUp_ : RoUp 4 3 tl := ⟨by omega, by omega, by omega⟩
 have hle_ : upF (bgF lg m * 4) 3 ≤ (usplF tl sp nq).2 := by have h1 := lasts_law hfl (usplF_bd (by omega) ho nq (Nat.le_refl _)).1; have h2 := (usplF_bd (by omega) ho nq (Nat.le_refl _)).2.1; unfold upF; omega
 have fB0 : Below w.heap.size w w := Below.refl _ _
 have lt_b21 := ltb h21
 have lt_b24 := ltb h24
 refine rx 12 [(312, 0), (313, 1), (314, 2), (315, 3), (316, 4), (311, 5), (317, 6), (318, 7), (319, 8), (27, 9), (28, 10), (29, 11)] [[], [0], [], [2], [1, 3], [4], [5], [5], [5], [6], [7], [8]] (rel [is (.agg #[.int .i64 4, .int .i64 3, .int .i64 tl, .slice ra nq c24]), ab fun v W => IsStd 4 3 tl nq (sp) v W, is (.slice qa m cq), ab fun v W => IsRd m (lg) v W, is (.tuple #[.int .i64 0, .int .i64 0, .int .i64 7]), is (.tuple #[.int .i64 0, .int .i64 0, .int .i64 7]), iI 0, iI 0, iI 7, iI 0, iI 0, iI 7])
  ⟨is_k, ab_k fun v W W' hb h => (IsStd.below h hb), is_k, ab_k fun v W W' hb h => (IsRd.below h hb), is_k, is_k, is_k, is_k, is_k, is_k, is_k, is_k, trivial⟩
  ⟨fun f s W j k l n o a => opv rfl rfl (by simp [go_sem, a.e 24 k_24, cl (bwb h24 j) 0, cl (bwb h24 j) 1, cl (bwb h24 j) 2, cl (bwb h24 j) 3]) rfl,
  fun f s W j k l n o a => by have p := bwt fB0 j; exact opd rfl rfl (by simp [go_sem, a.e 312 (k 0 rfl)]) (arm_rolls 4 3 tl (sp) (ra) nq c24 W (hO.below p) (by omega)) ((fun e W' h => by obtain ⟨v, e1, h1, h2⟩ := h; exact ⟨_, e1, h2, h1⟩)),
  fun f s W j k l n o a => opm (a.v 16 k_16),
  fun f s W j k l n o a => by have p := bwt fB0 j; exact opd rfl rfl (by simp [go_sem, a.e 314 (k 2 rfl)]) (arm_runs lg qa m cq W (hQ.below p) (by omega)) ((fun e W' h => by obtain ⟨v, e1, h1, h2⟩ := h; exact ⟨_, e1, h2, h1⟩)),
  fun f s W j k l n o a => by obtain ⟨a56', c57', d1, q58'⟩ := (k 1 rfl); obtain ⟨a59', c60', d3, q61'⟩ := (k 3 rfl); exact opc (args := #[.agg #[.int .i64 4, .int .i64 3, .int .i64 tl, .slice a56' nq c57'], .slice a59' m c60']) rfl rfl (by simp [go_sem, a.e 313 d1, a.e 315 d3]) (ro_Fault 4 3 tl sp (a56') nq (c57') lg (a59') m (c60') W hUp_ q61' hq (by omega) q58' ho (by omega) hfl),
  fun f s W j k l n o a => opm (a.v 316 (k 4 rfl)),
  fun f s W j k l n o a => opv rfl rfl (by simp [go_sem, a.e 311 (k 5 rfl)]) rfl,
  fun f s W j k l n o a => opv rfl rfl (by simp [go_sem, a.e 311 (k 5 rfl)]) rfl,
  fun f s W j k l n o a => opv rfl rfl (by simp [go_sem, a.e 311 (k 5 rfl)]) rfl,
  fun f s W j k l n o a => opm (a.v 317 (k 6 rfl)),
  fun f s W j k l n o a => opm (a.v 318 (k 7 rfl)),
  fun f s W j k l n o a => opm (a.v 319 (k 8 rfl)), trivial⟩ ?_
 intro f1 s1 W1 hB1 g1 hg1 z1
 have fB1 := hB1.f fB0
 have b1_1 := hB1.b h24
 have k1_16 := kt hg1 16 k_16
 have k1_24 := kt hg1 24 k_24
 refine rx 9 [(321, 0), (322, 1), (323, 2), (324, 3), (320, 4), (325, 5), (326, 6), (30, 7), (31, 8)] [[], [0], [], [0, 1, 2], [0, 1, 2, 3], [0, 1, 2, 3, 4], [0, 1, 2, 3, 4], [0, 1, 2, 3, 4, 5], [0, 1, 2, 3, 4, 5, 6, 7]] (rel [is (.agg #[.int .i64 4, .int .i64 3, .int .i64 tl, .slice ra nq c24]),
   ab fun v W => IsStd 4 3 tl nq (sp) v W,
   is (.slice qa m cq),
   ab fun v W => ∃ x0, v = .tuple #[x0, .int .i64 0] ∧ IsSpL nq (rsF tl sp (upF (bgF lg m * 4) 3)) x0 W,
   ab fun v W => ∃ x0, v = .tuple #[x0, .int .i64 0] ∧ IsSpL nq (rsF tl sp (upF (bgF lg m * 4) 3)) x0 W,
   ab fun v W => IsSpL nq (rsF tl sp (upF (bgF lg m * 4) 3)) v W,
   is (.int .i64 0),
   ab fun v W => IsSpL nq (rsF tl sp (upF (bgF lg m * 4) 3)) v W,
   is (.int .i64 0)])
  ⟨is_k, ab_k fun v W W' hb h => (IsStd.below h hb), is_k, ab_k fun v W W' hb ⟨x0, e, h0⟩ => ⟨x0, e, (IsSpL.below h0 hb)⟩, ab_k fun v W W' hb ⟨x0, e, h0⟩ => ⟨x0, e, (IsSpL.below h0 hb)⟩, ab_k fun v W W' hb h => (IsSpL.below h hb), is_k, ab_k fun v W W' hb h => (IsSpL.below h hb), is_k, trivial⟩
  ⟨fun f s W j k l n o a => opv rfl rfl (by simp [go_sem, a.e 24 k1_24, cl (bwb b1_1 j) 0, cl (bwb b1_1 j) 1, cl (bwb b1_1 j) 2, cl (bwb b1_1 j) 3]) rfl,
  fun f s W j k l n o a => by have p := bwt fB1 j; exact opd rfl rfl (by simp [go_sem, a.e 321 (k 0 rfl)]) (arm_rolls 4 3 tl (sp) (ra) nq c24 W (hO.below p) (by omega)) ((fun e W' h => by obtain ⟨v, e1, h1, h2⟩ := h; exact ⟨_, e1, h2, h1⟩)),
  fun f s W j k l n o a => opv rfl rfl (by simp [go_sem, a.e 16 k1_16]) rfl,
  fun f s W j k l n o a => by obtain ⟨a62', c63', d1, q64'⟩ := (k 1 rfl); have p := bwt fB1 j; exact opd (args := #[.agg #[.int .i64 4, .int .i64 3, .int .i64 tl, .slice a62' nq c63'], .slice qa m cq]) rfl rfl (by simp [go_sem, a.e 322 d1, a.e 323 (k 2 rfl)]) (ro_Rests 4 3 tl sp (a62') nq (c63') lg qa m cq W hUp_ (hQ.below p) hq (by omega) q64' ho (by omega) hle_) ((fun e W' h => by obtain ⟨v, e1, h1, h2⟩ := h; exact ⟨_, e1, h2, ⟨v, rfl, h1⟩⟩)),
  fun f s W j k l n o a => opv (v := (f 3)) rfl rfl (by simp [go_sem, (a.at' 324 rfl : o.tmps[324]?.getD undef = f 3)] <;> rfl) (k 3 rfl),
  fun f s W j k l n o a => by obtain ⟨x4_0, d4, p4_0⟩ := (k 4 rfl); exact opv (v := x4_0) rfl rfl (by simp [go_sem, a.e 320 d4]) p4_0,
  fun f s W j k l n o a => by obtain ⟨x4_0, d4, p4_0⟩ := (k 4 rfl); exact opv rfl rfl (by simp [go_sem, a.e 320 d4]) rfl,
  fun f s W j k l n o a => opv (v := (f 5)) rfl rfl (by simp [go_sem, (a.at' 325 rfl : o.tmps[325]?.getD undef = f 5)] <;> rfl) (k 5 rfl),
  fun f s W j k l n o a => opv rfl rfl (by simp [go_sem, a.e 326 (k 6 rfl)]) rfl, trivial⟩ ?_
 intro f2 s2 W2 hB2 g2 hg2 z2
 obtain ⟨a68', c69', r2_7, q70'⟩ := hB2.is 7
 have k2_22 := kt hg2 22 (kt hg1 22 k_22)
 have k2_29 := kt hg2 29 (kt hg1 29 (hB1.is 11))
 have k2_30 := kt hg2 30 r2_7
 have k2_31 := kt hg2 31 (hB2.is 8)
 refine wp_seq_k fun K3 hK3 => ?_
 refine rw_ 13 [(327, 0), (328, 1), (329, 2), (330, 3), (331, 4), (332, 5), (333, 6), (334, 7), (335, 8), (336, 9), (337, 10), (338, 11), (339, 12)] [[], [0], [1], [2], [2, 3], [2, 4], [5], [6], [6, 7], [6], [6, 9], [6, 8, 10], [6, 11]] (rel [iI 7, iB false, iB false, iI 0, iB false, iB false, iB false, is (.slice a68' nq c69'), iI ((nq : Int)), is (.slice ax nq cx), iI ((nq : Int)), iB false, iB false])
  ⟨fun f s W j k l n o a => opm (a.v 29 k2_29),
  fun f s W j k l n o a => opv rfl rfl (by simp [go_sem, a.e 327 (k 0 rfl)]) rfl,
  fun f s W j k l n o a => opm (a.v 328 (k 1 rfl)),
  fun f s W j k l n o a => osure rfl rfl (a.says (d := 329) rfl rfl (k 2 rfl)) (gv (by simp [go_sem, a.e 31 k2_31]) rfl),
  fun f s W j k l n o a => osure rfl rfl (a.says (d := 329) rfl rfl (k 2 rfl)) (gv (by simp [go_sem, a.e 330 (k 3 rfl)]) rfl),
  fun f s W j k l n o a => opk (c := false) rfl rfl (fun _ => by simp [go_sem, a.e 329 (k 2 rfl), a.e 331 (k 4 rfl)]) (fun h => absurd h (by decide)),
  fun f s W j k l n o a => opm (a.v 332 (k 5 rfl)),
  fun f s W j k l n o a => osure rfl rfl (a.says (d := 333) rfl rfl (k 6 rfl)) (gv (by simp [go_sem, a.e 30 k2_30]) rfl),
  fun f s W j k l n o a => osure rfl rfl (a.says (d := 333) rfl rfl (k 6 rfl)) (gv (by simp [go_sem, a.e 334 (k 7 rfl)]) rfl),
  fun f s W j k l n o a => osure rfl rfl (a.says (d := 333) rfl rfl (k 6 rfl)) (gv (by simp [go_sem, a.e 22 k2_22]) rfl),
  fun f s W j k l n o a => osure rfl rfl (a.says (d := 333) rfl rfl (k 6 rfl)) (gv (by simp [go_sem, a.e 336 (k 9 rfl)]) rfl),
  fun f s W j k l n o a => osure rfl rfl (a.says (d := 333) rfl rfl (k 6 rfl)) (gv (by simp [go_sem, a.e 335 (k 8 rfl), a.e 337 (k 10 rfl)]) rfl),
  fun f s W j k l n o a => opk (c := false) rfl rfl (fun _ => by simp [go_sem, a.e 333 (k 6 rfl), a.e 338 (k 11 rfl)]) (fun h => absurd h (by decide)), trivial⟩ ?_
 intro f3 s3 W3 hB3 g3 hg3 z3
 have fB3 := hB3.f (hB2.f fB1)
 have b3_0 := hB3.b (hB2.b (hB1.b h21))
 have b3_1 := hB3.b (hB2.b b1_1)
 have q71' := (SpL.below q70' hB3.below)
 have k3_2 := kt hg3 2 (kt hg2 2 (kt hg1 2 k_2))
 have k3_16 := kt hg3 16 (kt hg2 16 k1_16)
 have k3_17 := kt hg3 17 (kt hg2 17 (kt hg1 17 k_17))
 have k3_21 := kt hg3 21 (kt hg2 21 (kt hg1 21 k_21))
 have k3_24 := kt hg3 24 (kt hg2 24 k1_24)
 have k3_30 := kt hg3 30 k2_30
 have k3_339 := kt hg3 339 (hB3.is 12)
 refine wp_cond_false ((fr_eval rfl).trans k3_339) ?_
 refine wp_skip ?_
 refine hK3 _ _ ?_
 have hrs_ := q71'
 rw [upF_t] at hrs_
 exact rolls_f tl ta nb cb bs sp (lnF sp nb bs) lg ((bgF lg m * 4 + 2) / 3) m nq htl rfl rfl gm gnq hq ho hfl w0 W3 (bwt hbase_ fB3) (hT.below fB3) b21 b24 r21 ra qa (a68') n21 c21 c24 cq (c69') b3_0 b3_1 (hO.below fB3) (hQ.below fB3) hrs_ g3 k3_2 k3_16 k3_17 k3_21 k3_24 k3_30
open Go.RowKit
theorem rolls_d (tl : Int) (ta : Option Addr) (nb cb : Nat) (bs : Nat → Int) (ss : Nat → Int × Int) (n5 : Nat) (xs : List Int) (lg : Nat → Int) (m : Nat) (htl : 0 ≤ tl ∧ tl ≤ 49) (gm : m ≤ 3) (gn5 : n5 ≤ 5) (hq : ∀ i, i < m → RdIn (lg i)) (ho : ∀ i, i < n5 → RoIn tl (ss i)) (hgx : GoodL n5 xs) (hlx : xs.length ≤ n5) (hfl : fltB (badB 4 3 tl (pkS ss xs) xs.length lg) m = false) (w0 w : World) (hbase_ : Below w0.heap.size w0 w) (hT : ByV w ta nb bs) (b21 : Nat) (r21 qa : Option Addr) (c21 cq gx cx bx_ : Nat) (h21 : w.heap[b21]? = some (.cells #[.int .i64 4, .int .i64 3, .int .i64 tl, .slice r21 n5 c21] 80 (0, 0))) (hO : SpL w r21 n5 ss) (hQ : RdL w qa m lg) (hX : OwnR 3 1 bx_ xs.length (iis xs) gx cx w) (g : Nat → Value) (k_2 : g 2 = .slice ta nb cb) (k_16 : g 16 = .slice qa m cq) (k_17 : g 17 = .int .i64 ((bgF lg m))) (k_21 : g 21 = .pointer (some ⟨b21, 0, none⟩)) (k_22 : g 22 = .slice (some ⟨gx, 0, none⟩) (xs.length) cx) :
  (tailC 12 (bodyC Try.f4)).wp Try.prog (bodyPost Try.prog Try.f4 (fun e w' => e = .returned (.bool true) ∧ Below w0.heap.size w0 w')) (fr 426 g) w := by
 obtain ⟨bO_, oO_, hOO_⟩ := hO.at'
 have fB0 : Below w.heap.size w w := Below.refl _ _
 have lt_b21 := ltb h21
 refine wp_seq_k fun K1 hK1 => ?_
 refine rz 7 [(258, 0), (259, 1), (260, 2), (261, 3), (262, 4), (263, 5), (24, 6), (25, 8)] [[], [0], [], [2], [1, 3], [], [], [0, 1, 2, 3, 4, 6], [0, 1, 2, 3, 4, 5, 6, 7]] (rel [is (.pointer (some ⟨b21, 0, none⟩)), is (.agg #[.int .i64 4, .int .i64 3]), is (.pointer (some ⟨b21, 2, none⟩)), iI tl, is (.agg #[.int .i64 4, .int .i64 3, .int .i64 tl, .slice none 0 0]), ab fun v W => IsMap w.heap.size [] v W, bx 6 #[.int .i64 0, .int .i64 0, .int .i64 0, .slice none 0 0] 80])
  ⟨is_k, is_k, is_k, is_k, is_k, ab_k fun v W W' hb h => (IsMap.below h hb), bx_k, trivial⟩
  ⟨fun f s W j l n p q a => opv rfl rfl (by simp [go_sem, a.e 21 k_21]) rfl,
  fun f s W j l n p q a => opv rfl rfl (by simp [go_sem, a.e 258 (l 0 rfl), cl (bwb h21 j) 0, cl (bwb h21 j) 1]) rfl,
  fun f s W j l n p q a => opv rfl rfl (by simp [go_sem, a.e 21 k_21]) rfl,
  fun f s W j l n p q a => opv rfl rfl (by simp [go_sem, a.e 260 (l 2 rfl), cl (bwb h21 j) 2]) rfl,
  fun f s W j l n p q a => opv rfl rfl (by simp [go_sem, a.e 259 (l 1 rfl), a.e 261 (l 3 rfl)]) rfl,
  fun f s W j l n p q a => opDo_value (v := .map (some W.heap.size)) rfl rfl run_makeMapOp (balloc1 _ _) ⟨_, rfl, mapI_new W, Nat.le_trans (fB0).size j.size⟩,
  fun f s W j l n p q a => opb rfl rfl (by simp [go_sem]), trivial⟩ ?_
 intro f1 s1 W1 hB1 g1 hg1 z1
 have fB1 := hB1.f fB0
 have b1_0 := hB1.b h21
 obtain ⟨r31', r1_5, q32', q33'⟩ := hB1.is 5
 obtain ⟨r1_6, br1_6⟩ := hB1.is 6
 have lr1_6 := hB1.lr 6 br1_6
 have k1_262 := kt hg1 262 (hB1.is 4)
 have k1_263 := kt hg1 263 r1_5
 have k1_24 := kt hg1 24 r1_6
 obtain ⟨W2, hW2⟩ : ∃ W', W' = W1.setRow (s1 6) #[.int .i64 4, .int .i64 3, .int .i64 tl, .slice none 0 0] := ⟨_, rfl⟩
 refine tsk (o := _) rfl ⟨rfl, rfl⟩ (run_seg hW2 (fr_ev k1_24) (fr_ev k1_262) br1_6 rfl rfl rfl rfl) ?_
 obtain ⟨fB2, nb2, ot2, z2⟩ := sgf hW2 fB1 br1_6 (by omega)
 clear hW2
 have b2_0 := ot2 _ _ (by omega) b1_0
 have q34' := (MapI.other q32' ot2 br1_6)
 refine tail_value (o := _) rfl rfl rfl (v := .map (some r31')) (by simp [go_sem, frv 426 k1_263]) ?_
 generalize hg3 : upd g1 25 (.map (some r31')) = g3
 have k3_25 := kt hg3 25 (upd_same _ _ _)
 refine wpe ?_
 refine hK1 _ _ ?_
 obtain ⟨mr_, hmr_⟩ : ∃ b, r31' = b := ⟨_, rfl⟩
 have mp0_ := hmr_ ▸ q34'
 have mpl_ : w.heap.size ≤ mr_ := hmr_ ▸ (by assumption)
 have k25_ : g3 25 = .map (some mr_) := hmr_ ▸ k3_25
 have on0_ : OwnN 43 2 w.heap.size 0 (rowC (spC (pkS ss xs)) 0) none 0 W2 := ownN_nil
 refine wp_seq_k fun K2 hK2 => ?_
 refine rw_ 1 [(26, 0)] [[]] (rel [iI 0])
  ⟨fun f s W j l n p q a => opz, trivial⟩ ?_
 intro f4 s4 W4 hB4 g4 hg4 z4
 have fB4 := hB4.f fB2
 have b4_0 := hB4.b b2_0
 have b4_1 := hB4.b nb2
 have q35' := (MapI.below mp0_ hB4.below)
 have q36' := (on0_.below hB4.below)
 have k4_2 := kt hg4 2 (ku hg3 2 (kt hg1 2 k_2))
 have k4_16 := kt hg4 16 (ku hg3 16 (kt hg1 16 k_16))
 have k4_17 := kt hg4 17 (ku hg3 17 (kt hg1 17 k_17))
 have k4_21 := kt hg4 21 (ku hg3 21 (kt hg1 21 k_21))
 have k4_22 := kt hg4 22 (ku hg3 22 (kt hg1 22 k_22))
 have k4_24 := kt hg4 24 (ku hg3 24 k1_24)
 have k4_25 := kt hg4 25 k25_
 have k4_26 := kt hg4 26 (hB4.is 0)
 refine wp_block ?_
 refine wp_loop_n (fun m_ a_ W_ => ∃ g_ : Nat → Value, a_ = fr 426 g_ ∧ (∃ k : Nat, ∃ aq : Option Addr, ∃ cq2 : Nat, m_ = xs.length - k ∧ g_ 2 = .slice ta nb cb ∧ g_ 16 = .slice qa m cq ∧ g_ 17 = .int .i64 ((bgF lg m)) ∧ g_ 21 = .pointer (some ⟨b21, 0, none⟩) ∧ g_ 22 = .slice (some ⟨gx, 0, none⟩) (xs.length) cx ∧ g_ 24 = .pointer (some ⟨(s1 6), 0, none⟩) ∧ g_ 25 = .map (some mr_) ∧ g_ 26 = .int .i64 ((k : Int)) ∧ Below w.heap.size w W_ ∧ W4.heap.size ≤ W_.heap.size ∧ W_.heap[b21]? = some (.cells #[.int .i64 4, .int .i64 3, .int .i64 tl, .slice r21 n5 c21] 80 (0, 0)) ∧ W_.heap[(s1 6)]? = some (.cells #[.int .i64 4, .int .i64 3, .int .i64 tl, .slice aq k cq2] 80 (0, 0)) ∧ OwnN 43 2 w.heap.size k (rowC (spC (pkS ss xs)) k) aq cq2 W_ ∧ MapI W_ mr_ (xs.take k) ∧ (k ≤ xs.length))) ⟨_, g4, rfl, 0, none, 0, rfl, k4_2, k4_16, k4_17, k4_21, k4_22, k4_24, k4_25, k4_26.trans (by rfl), fB4, Nat.le_refl _, b4_0, b4_1, q36', q35', (by omega)⟩ ?_
 rintro _ _ W_37 ⟨g_37, rfl, k, aq, cq2, rfl, k_37_2, k_37_16, k_37_17, k_37_21, k_37_22, k_37_24, k_37_25, k_37_26, fB_37, z_37, b_37_0, m_37_0, q38', q39', lk0⟩
 refine wp_seq_k fun K4 hK4 => ?_
 refine rw_ 4 [(264, 0), (265, 1), (266, 2), (267, 3)] [[], [], [1], [0, 2]] (rel [iI ((k : Int)), is (.slice (some ⟨gx, 0, none⟩) (xs.length) cx), iI ((xs.length : Int)), iB (decide ((k : Int) < (xs.length : Int)))])
  ⟨fun f s W j l n p q a => opm (a.v 26 k_37_26),
  fun f s W j l n p q a => opm (a.v 22 k_37_22),
  fun f s W j l n p q a => opv rfl rfl (by simp [go_sem, a.e 265 (l 1 rfl)]) rfl,
  fun f s W j l n p q a => opv rfl rfl (by simp [go_sem, a.e 264 (l 0 rfl), a.e 266 (l 2 rfl)]) rfl, trivial⟩ ?_
 intro f5 s5 W5 hB5 g5 hg5 z5
 have fB5 := hB5.f fB_37
 have b5_0 := hB5.b b_37_0
 have b5_1 := hB5.b m_37_0
 have q40' := (q38'.below hB5.below)
 have q41' := (MapI.below q39' hB5.below)
 have k5_2 := kt hg5 2 k_37_2
 have k5_16 := kt hg5 16 k_37_16
 have k5_17 := kt hg5 17 k_37_17
 have k5_21 := kt hg5 21 k_37_21
 have k5_22 := kt hg5 22 k_37_22
 have k5_24 := kt hg5 24 k_37_24
 have k5_25 := kt hg5 25 k_37_25
 have k5_26 := kt hg5 26 k_37_26
 have k5_267 := kt hg5 267 (hB5.is 3)
 refine wp_cond_split (t := decide ((k : Int) < (xs.length : Int))) ((fr_eval rfl).trans k5_267) (fun hc6 => ?_) (fun hc6 => ?_)
 ·
  have hc6' := hc6; try simp only [ba] at hc6'
  have hkn : k < xs.length := by omega
  obtain ⟨u_, hu_, hue_⟩ := hgx.at hkn
  have hnw_ : ((u_ : Nat) : Int) ∉ xs.take k := hue_ ▸ good_new hgx hkn
  have hpk_ : pkS ss xs k = ss u_ := pk_at hue_
  have du0 : (decide (((u_ : Nat) : Int) < 0)) = false := decide_eq_false (by omega)
  have du1 : (decide ((n5 : Int) ≤ ((u_ : Nat) : Int))) = false := decide_eq_false (by omega)
  refine wp_skip ?_
  refine hK4 _ _ ?_
  refine wp_seq_k fun K7 hK7 => ?_
  refine wp_block ?_
  refine wp_seq_k fun K8 hK8 => ?_
  refine rw_ 23 [(270, 0), (271, 1), (272, 2), (273, 3), (274, 4), (275, 5), (276, 6), (277, 7), (278, 8), (279, 9), (280, 10), (281, 11), (282, 12), (283, 13), (284, 14), (285, 15), (286, 16), (287, 17), (288, 18), (289, 19), (290, 20), (291, 21), (292, 22)] [[], [], [0, 1], [2], [3], [4], [5], [5], [5, 6, 7], [5, 8], [5], [5, 10], [5, 11], [5, 9, 12], [5, 13], [14], [15], [15], [15], [15, 17, 18], [15, 19], [15, 16, 20], [15, 21]] (rel [is (.slice (some ⟨gx, 0, none⟩) (xs.length) cx), iI ((k : Int)), is (.pointer (some ⟨gx, k, none⟩)), iI (((u_ : Nat) : Int)), iB false, iB false, is (.slice (some ⟨gx, 0, none⟩) (xs.length) cx), iI ((k : Int)), is (.pointer (some ⟨gx, k, none⟩)), iI (((u_ : Nat) : Int)), is (.pointer (some ⟨b21, 3, none⟩)), is (.slice r21 n5 c21), iI ((n5 : Int)), iB false, iB false, iB false, is (.map (some mr_)), is (.slice (some ⟨gx, 0, none⟩) (xs.length) cx), iI ((k : Int)), is (.pointer (some ⟨gx, k, none⟩)), iI (((u_ : Nat) : Int)), iB false, iB false])
   ⟨fun f s W j l n p q a => opm (a.v 22 k5_22),
  fun f s W j l n p q a => opm (a.v 26 k5_26),
  fun f s W j l n p q a => by have li_ := Nat.not_le.2 hkn; have li2_ : (k : Int) < (xs.length : Int) := (by omega); exact opv rfl rfl (by simp [go_sem, a.e 270 (l 0 rfl), a.e 271 (l 1 rfl), li_, li2_]) rfl,
  fun f s W j l n p q a => by have r := bwt fB5 j; have cu_ := own_at (hX.below r) hkn; rw [hue_] at cu_; exact opv rfl rfl (by simp [go_sem, a.e 272 (l 2 rfl), cu_]) rfl,
  fun f s W j l n p q a => opv rfl rfl (by simp [go_sem, a.e 273 (l 3 rfl), du0]) rfl,
  fun f s W j l n p q a => opm (a.v 274 (l 4 rfl)),
  fun f s W j l n p q a => osure rfl rfl (a.says (d := 275) rfl rfl (l 5 rfl)) (gv (by simp [go_sem, a.e 22 k5_22]) rfl),
  fun f s W j l n p q a => osure rfl rfl (a.says (d := 275) rfl rfl (l 5 rfl)) (gv (by simp [go_sem, a.e 26 k5_26]) rfl),
  fun f s W j l n p q a => osure rfl rfl (a.says (d := 275) rfl rfl (l 5 rfl)) (by have li_ := Nat.not_le.2 hkn; have li2_ : (k : Int) < (xs.length : Int) := (by omega); exact gv (by simp [go_sem, a.e 276 (l 6 rfl), a.e 277 (l 7 rfl), li_, li2_]) rfl),
  fun f s W j l n p q a => osure rfl rfl (a.says (d := 275) rfl rfl (l 5 rfl)) (by have r := bwt fB5 j; have cu_ := own_at (hX.below r) hkn; rw [hue_] at cu_; exact gv (by simp [go_sem, a.e 278 (l 8 rfl), cu_]) rfl),
  fun f s W j l n p q a => osure rfl rfl (a.says (d := 275) rfl rfl (l 5 rfl)) (gv (by simp [go_sem, a.e 21 k5_21]) rfl),
  fun f s W j l n p q a => osure rfl rfl (a.says (d := 275) rfl rfl (l 5 rfl)) (gv (by simp [go_sem, a.e 280 (l 10 rfl), cl (bwb b5_0 j) 3]) rfl),
  fun f s W j l n p q a => osure rfl rfl (a.says (d := 275) rfl rfl (l 5 rfl)) (gv (by simp [go_sem, a.e 281 (l 11 rfl)]) rfl),
  fun f s W j l n p q a => osure rfl rfl (a.says (d := 275) rfl rfl (l 5 rfl)) (gv (by simp [go_sem, a.e 279 (l 9 rfl), a.e 282 (l 12 rfl), du1, hu_]) rfl),
  fun f s W j l n p q a => opk (c := false) rfl rfl (fun _ => by simp [go_sem, a.e 275 (l 5 rfl), a.e 283 (l 13 rfl)]) (fun h => absurd h (by decide)),
  fun f s W j l n p q a => opm (a.v 284 (l 14 rfl)),
  fun f s W j l n p q a => osure rfl rfl (a.says (d := 285) rfl rfl (l 15 rfl)) (gv (by simp [go_sem, a.e 25 k5_25]) rfl),
  fun f s W j l n p q a => osure rfl rfl (a.says (d := 285) rfl rfl (l 15 rfl)) (gv (by simp [go_sem, a.e 22 k5_22]) rfl),
  fun f s W j l n p q a => osure rfl rfl (a.says (d := 285) rfl rfl (l 15 rfl)) (gv (by simp [go_sem, a.e 26 k5_26]) rfl),
  fun f s W j l n p q a => osure rfl rfl (a.says (d := 285) rfl rfl (l 15 rfl)) (by have li_ := Nat.not_le.2 hkn; have li2_ : (k : Int) < (xs.length : Int) := (by omega); exact gv (by simp [go_sem, a.e 287 (l 17 rfl), a.e 288 (l 18 rfl), li_, li2_]) rfl),
  fun f s W j l n p q a => osure rfl rfl (a.says (d := 285) rfl rfl (l 15 rfl)) (by have r := bwt fB5 j; have cu_ := own_at (hX.below r) hkn; rw [hue_] at cu_; exact gv (by simp [go_sem, a.e 289 (l 19 rfl), cu_]) rfl),
  fun f s W j l n p q a => osure rfl rfl (a.says (d := 285) rfl rfl (l 15 rfl)) (gv (run_lookupOp (by kernel_rfl) (by kernel_rfl) (kt := 3) (et := 4) (fun W => (by kernel_rfl)) (MapI.below q41' j) hnw_ (a.v 286 (l 16 rfl)) (a.v 290 (l 20 rfl))) rfl),
  fun f s W j l n p q a => opk (c := false) rfl rfl (fun _ => by simp [go_sem, a.e 285 (l 15 rfl), a.e 291 (l 21 rfl)]) (fun h => absurd h (by decide)), trivial⟩ ?_
  intro f6 s6 W6 hB6 g6 hg6 z6
  have fB6 := hB6.f fB5
  have q42' := (q40'.below hB6.below)
  have q43' := (MapI.below q41' hB6.below)
  have k6_22 := kt hg6 22 k5_22
  have k6_25 := kt hg6 25 k5_25
  have k6_26 := kt hg6 26 k5_26
  have k6_292 := kt hg6 292 (hB6.is 22)
  refine wp_cond_false ((fr_eval rfl).trans k6_292) ?_
  refine wp_skip ?_
  refine hK8 _ _ ?_
  refine wp_seq_k fun K11 hK11 => ?_
  refine ry 5 [(293, 0), (294, 1), (295, 2), (296, 3), (297, 4)] [[], [], [], [1, 2], [3], [0, 1, 2, 3, 4]] (rel [is (.map (some mr_)), is (.slice (some ⟨gx, 0, none⟩) (xs.length) cx), iI ((k : Int)), is (.pointer (some ⟨gx, k, none⟩)), iI (((u_ : Nat) : Int))])
   ⟨fun f s W j l n p q a => opm (a.v 25 k6_25),
  fun f s W j l n p q a => opm (a.v 22 k6_22),
  fun f s W j l n p q a => opm (a.v 26 k6_26),
  fun f s W j l n p q a => by have li_ := Nat.not_le.2 hkn; have li2_ : (k : Int) < (xs.length : Int) := (by omega); exact opv rfl rfl (by simp [go_sem, a.e 294 (l 1 rfl), a.e 295 (l 2 rfl), li_, li2_]) rfl,
  fun f s W j l n p q a => by have r := bwt fB6 j; have cu_ := own_at (hX.below r) hkn; rw [hue_] at cu_; exact opv rfl rfl (by simp [go_sem, a.e 296 (l 3 rfl), cu_]) rfl, trivial⟩ ?_
  intro f7 s7 W7 hB7 g7 hg7 z7
  have fB7 := hB7.f fB6
  have b7_0 := hB7.b (hB6.b b5_0)
  have b7_1 := hB7.b (hB6.b b5_1)
  have q44' := (q42'.below hB7.below)
  have q45' := (MapI.below q43' hB7.below)
  have k7_21 := kt hg7 21 (kt hg6 21 k5_21)
  have k7_22 := kt hg7 22 k6_22
  have k7_24 := kt hg7 24 (kt hg6 24 k5_24)
  have k7_26 := kt hg7 26 k6_26
  have k7_293 := kt hg7 293 (hB7.is 0)
  have k7_297 := kt hg7 297 (hB7.is 4)
  obtain ⟨W8, mu8, mp8, ot8, z8, fb8⟩ := mapUpdate_tail (P := Try.prog) (mt := 86) (kt := 3) (et := 4) (by kernel_rfl) (by kernel_rfl) (.bool true) q45' hnw_
  refine tsk (o := _) rfl ⟨rfl, rfl⟩ (mu8 _ _ _ _ _ _ _ _ _ (fr_ev k7_293) (fr_ev k7_297) rfl) ?_
  have fB8 := (fB7).trans (fb8 w.heap.size (by omega) (fB7).size)
  have mq8 : MapI W8 mr_ (xs.take (k + 1)) := by rw [take_elT hkn, hue_]; exact mp8
  have b8_0 := ot8 _ _ (MapI.ne q45' b7_0) b7_0
  have b8_1 := ot8 _ _ (MapI.ne q45' b7_1) b7_1
  have on8 : OwnN 43 2 w.heap.size k (rowC (spC (pkS ss xs)) k) aq cq2 W8 := OwnN.other q44' ot8 (ownN_map q44' q45') z8
  refine wpe ?_
  refine hK11 _ _ ?_
  refine ry 11 [(298, 0), (299, 1), (300, 2), (301, 3), (302, 4), (303, 5), (304, 6), (305, 7), (306, 8), (307, 9), (308, 10), (309, 11), (310, 12)] [[], [0], [], [2], [], [], [4, 5], [4, 5, 6], [2, 3, 4, 5, 6, 7], [2, 3, 4, 5, 6, 7, 8], [2, 3, 4, 5, 6, 7, 8, 9], [0, 1, 2, 3, 4, 5, 6, 7, 8, 9, 10], [0, 1, 2, 3, 4, 5, 6, 7, 8, 9, 10, 11], [0, 1, 2, 3, 4, 5, 6, 7, 8, 9, 10, 11, 12]] (rel [is (.pointer (some ⟨(s1 6), 3, none⟩)), is (.slice aq k cq2), is (.pointer (some ⟨b21, 3, none⟩)), is (.slice r21 n5 c21), is (.slice (some ⟨gx, 0, none⟩) (xs.length) cx), iI ((k : Int)), is (.pointer (some ⟨gx, k, none⟩)), iI (((u_ : Nat) : Int)), is (.pointer (some ⟨bO_, oO_ + u_ * 2, none⟩)), is (.agg #[.int .i64 ((pkS ss xs k).1), .int .i64 ((pkS ss xs k).2)]), row 10 1 #[.int .i64 ((pkS ss xs k).1), .int .i64 ((pkS ss xs k).2)] 43])
   ⟨fun f s W j l n p q a => opv rfl rfl (by simp [go_sem, a.e 24 k7_24]) rfl,
  fun f s W j l n p q a => opv rfl rfl (by simp [go_sem, a.e 298 (l 0 rfl), cl (bwb b8_1 j) 3]) rfl,
  fun f s W j l n p q a => opv rfl rfl (by simp [go_sem, a.e 21 k7_21]) rfl,
  fun f s W j l n p q a => opv rfl rfl (by simp [go_sem, a.e 300 (l 2 rfl), cl (bwb b8_0 j) 3]) rfl,
  fun f s W j l n p q a => opm (a.v 22 k7_22),
  fun f s W j l n p q a => opm (a.v 26 k7_26),
  fun f s W j l n p q a => by have li_ := Nat.not_le.2 hkn; have li2_ : (k : Int) < (xs.length : Int) := (by omega); exact opv rfl rfl (by simp [go_sem, a.e 302 (l 4 rfl), a.e 303 (l 5 rfl), li_, li2_]) rfl,
  fun f s W j l n p q a => by have r := bwt fB8 j; have cu_ := own_at (hX.below r) hkn; rw [hue_] at cu_; exact opv rfl rfl (by simp [go_sem, a.e 304 (l 6 rfl), cu_]) rfl,
  fun f s W j l n p q a => by have hab := (hOO_ (by omega)).1; have li_ := Nat.not_le.2 hu_; have li2_ : ((u_ : Nat) : Int) < (n5 : Int) := (by omega); exact opv rfl rfl (by simp [go_sem, a.e 301 (l 3 rfl), a.e 305 (l 7 rfl), hab, li_, li2_]) rfl,
  fun f s W j l n p q a => by have r := bwt fB8 j; have cu_ := (((hOO_ (by omega)).2).below r).2 u_ hu_; rw [← hpk_] at cu_; have cu0_ := cu_.1; have cu1_ := cu_.2; exact opv rfl rfl (by simp [go_sem, a.e 306 (l 8 rfl), cu0_, cu1_]) rfl,
  fun f s W j l n p q a => opr rfl rfl (by simp [go_sem, a.e 307 (l 9 rfl)]), trivial⟩ ?_
  intro f9 s9 W9 hB9 g9 hg9 z9
  have fB9 := hB9.f fB8
  have b9_0 := hB9.b b8_0
  have b9_1 := hB9.b b8_1
  have q46' := (MapI.below mq8 hB9.below)
  have q47' := (on8.below hB9.below)
  obtain ⟨r9_10, br9_10⟩ := hB9.is 10
  have lr9_10 := hB9.lr 10 br9_10
  have k9_299 := kt hg9 299 (hB9.is 1)
  have k9_308 := kt hg9 308 r9_10
  obtain ⟨ga10, ca10, W10, ra10, ow10, ot10, z10, gg10, fB10⟩ := growN_tail 45 45 43 2 16 _ (by kernel_rfl) infoSp rfl (rowC (spC (pkS ss xs)) (k + 1)) (k + 1) (off := 0) (k := 1) (c' := 1) [.int .i64 ((pkS ss xs k).1), .int .i64 ((pkS ss xs k).2)] fB9 q47' rfl rfl rfl rfl (cells_at br9_10) (by omega)
  refine tail_value2 (o := _) rfl rfl rfl (run_appendOp (fr_ev k9_299) (fr_ev k9_308) ra10) ?_
  have b10_0 := ot10 _ _ (ownN_ne q47' b9_0 (by decide)) b9_0
  have b10_1 := ot10 _ _ (ownN_ne q47' b9_1 (by decide)) b9_1
  have mg10 := MapI.grow q46' q47' ot10
  have on10 : OwnN 43 2 w.heap.size (k + 1) (rowC (spC (pkS ss xs)) (k + 1)) (some ⟨ga10, 0, none⟩) ca10 W10 := .inr ⟨_, rfl, ow10⟩
  generalize hg10 : upd g9 309 (.slice (some ⟨ga10, 0, none⟩) ((k + 1)) (ca10)) = g10
  have k10_24 := ku hg10 24 (kt hg9 24 k7_24)
  refine tail_value (o := _) rfl rfl rfl (v := .pointer (some ⟨(s1 6), 3, none⟩)) (by simp [go_sem, frv 426 k10_24]) ?_
  generalize hg11 : upd g10 310 (.pointer (some ⟨(s1 6), 3, none⟩)) = g11
  have k11_26 := ku hg11 26 (ku hg10 26 (kt hg9 26 k7_26))
  have k11_309 := ku hg11 309 (kt hg10 309 (upd_same _ _ _))
  have k11_310 := kt hg11 310 (upd_same _ _ _)
  obtain ⟨W12, hW12⟩ : ∃ W', W' = W10.setRow (s1 6) #[.int .i64 4, .int .i64 3, .int .i64 tl, .slice (some ⟨ga10, 0, none⟩) ((k + 1)) (ca10)] := ⟨_, rfl⟩
  refine tsk (o := _) rfl ⟨rfl, rfl⟩ (run_seg hW12 (fr_ev k11_310) (fr_ev k11_309) b10_1 rfl rfl rfl rfl) ?_
  obtain ⟨fB12, nb12, ot12, z12⟩ := sgf hW12 fB10 b10_1 (by omega)
  clear hW12
  have b12_0 := ot12 _ _ (by omega) b10_0
  have q48' := (MapI.other mg10 ot12 b10_1)
  have q49' := on10.other ot12 (ownN_ne on10 b10_1 (by decide)) z12
  refine wpe ?_
  refine ibn ?_
  refine hK7 _ _ ?_
  refine ry 3 [(268, 0), (269, 1), (26, 2)] [[], [0], [0, 1]] (rel [iI ((k : Int)), iI ((k : Int) + 1), iI ((k : Int) + 1)])
   ⟨fun f s W j l n p q a => opm (a.v 26 ((p 2 26 rfl rfl).trans k11_26)),
  fun f s W j l n p q a => opv rfl rfl (by simp [go_sem, a.e 268 (l 0 rfl), IntWalk.i64_in ((k : Int) + 1) (by omega)]) rfl,
  fun f s W j l n p q a => opm (a.v 269 (l 1 rfl)), trivial⟩ ?_
  intro f13 s13 W13 hB13 g13 hg13 z13
  have fB13 := hB13.f fB12
  have b13_0 := hB13.b b12_0
  have b13_1 := hB13.b nb12
  have q50' := (MapI.below q48' hB13.below)
  have q51' := (q49'.below hB13.below)
  refine wpe ?_
  have k13_2 := kt hg13 2 (ku hg11 2 (ku hg10 2 (kt hg9 2 (kt hg7 2 (kt hg6 2 k5_2)))))
  have k13_16 := kt hg13 16 (ku hg11 16 (ku hg10 16 (kt hg9 16 (kt hg7 16 (kt hg6 16 k5_16)))))
  have k13_17 := kt hg13 17 (ku hg11 17 (ku hg10 17 (kt hg9 17 (kt hg7 17 (kt hg6 17 k5_17)))))
  have k13_21 := kt hg13 21 (ku hg11 21 (ku hg10 21 (kt hg9 21 k7_21)))
  have k13_22 := kt hg13 22 (ku hg11 22 (ku hg10 22 (kt hg9 22 k7_22)))
  have k13_24 := kt hg13 24 (ku hg11 24 k10_24)
  have k13_25 := kt hg13 25 (ku hg11 25 (ku hg10 25 (kt hg9 25 (kt hg7 25 k6_25))))
  have k13_26 := kt hg13 26 (hB13.is 2)
  refine then_normal ?_
  exact ⟨_, by omega, g13, rfl, k + 1, (some ⟨ga10, 0, none⟩), ca10, rfl, k13_2, k13_16, k13_17, k13_21, k13_22, k13_24, k13_25, k13_26.trans (by go_num), fB13, (by omega), b13_0, b13_1, q51', q50', (by omega)⟩
 ·
  have hc6' := hc6; try simp only [ba] at hc6'
  have hkx : k = xs.length := by omega
  subst hkx
  ·
   refine wp_exit ?_
   refine then_exit ?_
   refine then_exit ?_
   refine inBlock_at ?_
   refine hK2 _ _ ?_
   exact rolls_e tl ta nb cb bs (pkS ss xs) lg m xs.length htl gm (by omega) hq (pkS_in ho hgx) hfl w0 W5 (bwt hbase_ fB5) (hT.below fB5) b21 (s1 6) r21 (aq) qa _ n5 c21 (cq2) cq cx b5_0 b5_1 (ownN_spL q40') (hQ.below fB5) g5 k5_2 k5_16 k5_17 k5_21 k5_22 k5_24
end Go.Proofs.Ytcgccflcjejlhaa
