/- Part of the proof: what the claim leans on. -/
import Derived.Test.YtnhipdbdolabkaaWAX
import Derived.Test.YtnhipdbdolabkaaWAQ
set_option linter.unusedSimpArgs false
set_option linter.unusedVariables false
namespace Go.Proofs.Ytnhipdbdolabkaa
open Go.RowKit
theorem ii_at3 {W : World} {g c k : Nat} {xs : List Int} (h : Ii W (some ⟨g, 0, none⟩) 3 c xs) (hk : k < 3) : W.cell? ⟨g, k, none⟩ = some (.int .i64 (elT xs k)) := by
  obtain ⟨b, o', h1⟩ := h.open
  obtain ⟨e, h2⟩ := h1 (by omega)
  cases e
  have := h2 W (Below.refl _ _) k hk
  rwa [Nat.zero_add] at this
/-- What is left of the needs. -/
def osL (os : Nat → To) (gs : List Int) (i : Nat) : To := ⟨(os i).wd, max 0 ((os i).lo - elT gs i), max 0 ((os i).hi - elT gs i)⟩
theorem OwnN.ordL {B c n : Nat} {a : Option Addr} {os : Nat → To} {W : World} (hn : n = 3) (h : OwnN 72 3 B n (orC os n) a c W) : IsOrd 3 os (.slice a n c) W := by
  subst hn
  rcases h with ⟨-, h, -⟩ | ⟨g, rfl, h⟩
  · cases h
  · exact ⟨g, c, rfl, h.ordR (fun i hi => orC_at os 3 i hi)⟩
theorem Ii.otA {W W' : World} {g o n c : Nat} {a : Option Addr} {xs : List Int} (h : Ii W (some ⟨g, o, none⟩) n c xs) (hot : ∀ k y, (∀ g, a = some ⟨g, 0, none⟩ → g ≠ k) → W.heap[k]? = some y → W'.heap[k]? = some y) (hne : ∀ q, a = some ⟨q, 0, none⟩ → q = g → False) (hz : W.heap.size ≤ W'.heap.size) : Ii W' (some ⟨g, o, none⟩) n c xs := by
  obtain ⟨h0, h1, h2, h3, h4⟩ := h
  refine ⟨h0, h1, h2, h3, h4.imp id ?_⟩
  rintro ⟨b, o', e, hlt, hc⟩
  cases e
  refine ⟨g, o, rfl, Nat.lt_of_lt_of_le hlt hz, fun i hi => ?_⟩
  have hb : W.heap[g]? = some W.heap[g] := Array.getElem?_eq_getElem hlt
  rw [← hc i hi]
  exact World.cell?_of_block ((hot g _ (fun q e h => hne q e h) hb).trans hb.symm)
set_option maxRecDepth 100000 in
set_option maxHeartbeats 16000000 in
theorem tr_Rest (p : Tp) (os : Nat → To) (bo oo co : Nat) (n c bq oq : Nat) (al : Option Addr) (xs : Nat → List Int × Int) (ad : Nat → Option Addr) (cp : Nat → Nat) (at_ : Nat) (dn : Int) (gf : List Int) (w : World) (hO : OrdR w bo oo 3 os) (hp : TpIn p) (ho : ∀ i, i < 3 → ToIn (os i)) (hal : 0 < n → al = some ⟨bq, oq, none⟩) (hS : SuR w bq oq n xs ad cp) (hg : GetOk p os n xs) (hwr : wrF os (gotK xs n) 3 0 = -1) (hnc : n ≤ c) (hat : at_ < n) (hdn : 0 ≤ dn ∧ dn ≤ (xs at_).2) (hgf : addK (gotK xs at_) (xs at_).1 dn 3 = gf) :
  Calls Try.prog 24 #[.agg #[.int .i64 p.wide, .int .i64 p.tlo, .int .i64 p.thi, .int .i64 p.webs], .slice (some ⟨bo, oo, none⟩) (3) (co), .slice (al) (n) (c), .int .i64 ((at_ : Int)), .int .i64 dn] w (fun e w' => ∃ v, e = .returned (.tuple #[v, .int .i64 0]) ∧ IsOrd 3 (osL os gf) v w' ∧ Below w.heap.size w w') := by
 have hgfl : gf.length = 3 := by rw [← hgf, addK_len, gotK_len]
 have hgn3 := hg.n3
 have hra_ := hg.rn at_ hat
 have hgfb : ∀ i, 0 ≤ elT gf i ∧ elT gf i ≤ 480 := fun i => by rw [← hgf, addK_at _ _ _ _ _ (by rw [gotK_len]; exact Nat.le_refl _)]; have h1 := gotK_bd hg at_ (by omega) i; have h2 := tr_mul (getD_bd (hg.bd at_ hat) (by decide) i) (show 0 ≤ dn ∧ dn ≤ 30 by omega); split <;> omega
 refine calls_fr Try.func24 Try.ntmps24 rfl rfl fun g hg => ?_
 have k0 : g 0 = .agg #[.int .i64 p.wide, .int .i64 p.tlo, .int .i64 p.thi, .int .i64 p.webs] := hg 0
 have k1 : g 1 = .slice (some ⟨bo, oo, none⟩) (3) (co) := hg 1
 have k2 : g 2 = .slice (al) (n) (c) := hg 2
 have k3 : g 3 = .int .i64 ((at_ : Int)) := hg 3
 have k4 : g 4 = .int .i64 dn := hg 4
 clear hg
 have fB0 : Below w.heap.size w w := Below.refl _ _
 refine wp_seq_k fun K1 hK1 => ?_
 refine region_dk 3 [(5, 0), (10, 1), (11, 2)] [[], [], [1]] (rel [bx 0 #[.int .i64 p.wide, .int .i64 p.tlo, .int .i64 p.thi, .int .i64 p.webs] 35,
   is (.slice (none) (0) (0)),
   is (.int .i64 0)])
  ⟨bx_k, is_k, is_k, trivial⟩
  ⟨fun f s W d j l m q a => opb rfl rfl (by simp [go_sem, a.e 0 k0]),
  fun f s W d j l m q a => opv rfl rfl (by simp [go_sem]) rfl,
  fun f s W d j l m q a => opv rfl rfl (by simp [go_sem]) rfl, trivial⟩ ?_
 intro f1 s1 W1 hB1 g1 hg1
 have fB1 := hB1.f fB0
 have z1 := hB1.below.size
 obtain ⟨r1_0, br1_0⟩ := hB1.is 0
 have lr1_0 := hB1.lr 0 br1_0
 refine hK1 _ _ ?_
 have k1_1 := kt hg1 1 k1
 have k1_2 := kt hg1 2 k2
 have k1_3 := kt hg1 3 k3
 have k1_4 := kt hg1 4 k4
 have k1_5 := kt hg1 5 r1_0
 have k1_10 := kt hg1 10 (hB1.is 1)
 have k1_11 := kt hg1 11 (hB1.is 2)
 refine wp_seq_k fun K2 hK2 => ?_
 refine region_dk 7 [(19, 0), (20, 1), (21, 2), (18, 3), (22, 4), (23, 5), (12, 6), (11, 8)] [[], [], [0, 1], [0, 1, 2], [0, 1, 2, 3], [0, 1, 2, 3], [], [0, 1, 2, 3, 4, 6], [0, 1, 2, 3, 4, 5, 6, 7]] (rel [is (.agg #[.int .i64 p.wide, .int .i64 p.tlo, .int .i64 p.thi, .int .i64 p.webs]),
   is (.slice (some ⟨bo, oo, none⟩) (3) (co)),
   is (.tuple #[.agg #[.int .i64 p.wide, .int .i64 p.tlo, .int .i64 p.thi, .int .i64 p.webs, .slice (some ⟨bo, oo, none⟩) (3) (co)], .int .i64 0]),
   is (.tuple #[.agg #[.int .i64 p.wide, .int .i64 p.tlo, .int .i64 p.thi, .int .i64 p.webs, .slice (some ⟨bo, oo, none⟩) (3) (co)], .int .i64 0]),
   is (.agg #[.int .i64 p.wide, .int .i64 p.tlo, .int .i64 p.thi, .int .i64 p.webs, .slice (some ⟨bo, oo, none⟩) (3) (co)]),
   is (.int .i64 0),
   bx 6 #[.int .i64 0, .int .i64 0, .int .i64 0, .int .i64 0, .slice (none) (0) (0)] 87])
  ⟨is_k, is_k, is_k, is_k, is_k, is_k, bx_k, trivial⟩
  ⟨fun f s W d j l m q a => opl rfl rfl rfl (a.v 5 k1_5) (blk_below br1_0 d) Try.underlying35 rfl (by kernel_rfl) rfl,
  fun f s W d j l m q a => opv rfl rfl (by simp [go_sem, a.e 1 k1_1]) rfl,
  fun f s W d j l m q a => by have r := below_trans fB1 d; exact opc rfl rfl (by simp [go_sem, a.e 19 (j 0 rfl), a.e 20 (j 1 rfl)]) (tr_open p os bo oo 3 co W (hO.below r) hp ho (by decide)),
  fun f s W d j l m q a => opv rfl rfl (by simp [go_sem, a.e 21 (j 2 rfl)]) rfl,
  fun f s W d j l m q a => opv rfl rfl (by simp [go_sem, a.e 18 (j 3 rfl)]) rfl,
  fun f s W d j l m q a => opv rfl rfl (by simp [go_sem, a.e 18 (j 3 rfl)]) rfl,
  fun f s W d j l m q a => opb rfl rfl (by simp [go_sem]), trivial⟩ ?_
 intro f2 s2 W2 hB2 g2 hg2
 have fB2 := hB2.f fB1
 have z2 := hB2.below.size
 have b2_0 := hB2.b br1_0
 obtain ⟨r2_6, br2_6⟩ := hB2.is 6
 have lr2_6 := hB2.lr 6 br2_6
 have k2_1 := kt hg2 1 k1_1
 have k2_2 := kt hg2 2 k1_2
 have k2_3 := kt hg2 3 k1_3
 have k2_4 := kt hg2 4 k1_4
 have k2_10 := kt hg2 10 k1_10
 have k2_22 := kt hg2 22 (hB2.is 4)
 have k2_23 := kt hg2 23 (hB2.is 5)
 have k2_12 := kt hg2 12 r2_6
 obtain ⟨W3, hW3⟩ : ∃ W', W' = W2.setRow (s2 6) #[.int .i64 p.wide, .int .i64 p.tlo, .int .i64 p.thi, .int .i64 p.webs, .slice (some ⟨bo, oo, none⟩) (3) (co)] := ⟨_, rfl⟩
 refine tail_skip (o := _) rfl ⟨rfl, rfl⟩ (run_seg hW3 (fr_ev k2_12) (fr_ev k2_22) br2_6 rfl rfl rfl rfl) ?_
 obtain ⟨fB3, nb3, ot3, z3⟩ := seg_facts hW3 fB2 br2_6 (by omega)
 clear hW3
 have b3_0 := ot3 _ _ (by omega) b2_0
 refine tail_value (o := _) rfl rfl rfl (v := .int .i64 0) (by simp [go_sem, frv 112 k2_23]) ?_
 generalize hg4 : upd g2 11 (.int .i64 0) = g4
 have k4_1 := ku hg4 1 k2_1
 have k4_2 := ku hg4 2 k2_2
 have k4_3 := ku hg4 3 k2_3
 have k4_4 := ku hg4 4 k2_4
 have k4_10 := ku hg4 10 k2_10
 have k4_12 := ku hg4 12 k2_12
 have k4_11 := kt hg4 11 (upd_same _ _ _)
 refine wpOps_end ?_
 refine hK2 _ _ ?_
 refine wp_seq_k fun K3 hK3 => ?_
 refine wp_seq_k fun K4 hK4 => ?_
 refine region_dk 2 [(24, 0), (25, 1)] [[], [0]] (rel [is (.int .i64 0),
   is (.bool true)])
  ⟨is_k, is_k, trivial⟩
  ⟨fun f s W d j l m q a => opv rfl rfl (by simp [go_sem, a.e 11 k4_11]) rfl,
  fun f s W d j l m q a => opv rfl rfl (by simp [go_sem, a.e 24 (j 0 rfl)]) rfl, trivial⟩ ?_
 intro f5 s5 W5 hB5 g5 hg5
 have fB5 := hB5.f fB3
 have z5 := hB5.below.size
 have b5_0 := hB5.b b3_0
 have b5_1 := hB5.b nb3
 refine hK4 _ _ ?_
 have k5_1 := kt hg5 1 k4_1
 have k5_2 := kt hg5 2 k4_2
 have k5_3 := kt hg5 3 k4_3
 have k5_4 := kt hg5 4 k4_4
 have k5_10 := kt hg5 10 k4_10
 have k5_12 := kt hg5 12 k4_12
 have k5_11 := kt hg5 11 k4_11
 have k5_25 := kt hg5 25 (hB5.is 1)
 refine wp_cond_true ((fr_eval rfl).trans k5_25) ?_
 refine region_dk 9 [(27, 0), (28, 1), (29, 2), (26, 3), (30, 4), (31, 5), (32, 6), (33, 7), (11, 8)] [[], [], [0, 1], [0, 1, 2], [0, 1, 2, 3], [0, 1, 2, 3], [0, 1, 2, 3], [0, 1, 2, 3], [0, 1, 2, 3, 4, 5, 6, 7]] (rel [is (.agg #[.int .i64 p.wide, .int .i64 p.tlo, .int .i64 p.thi, .int .i64 p.webs, .slice (some ⟨bo, oo, none⟩) (3) (co)]),
   is (.slice (al) (n) (c)),
   ab fun v W => ∃ x0, v = .tuple #[x0, .int .i64 ((wasK p os xs n)), .int .i64 0, .int .i64 0] ∧ IsG (gotK xs n) x0 W,
   ab fun v W => ∃ x0, v = .tuple #[x0, .int .i64 ((wasK p os xs n)), .int .i64 0, .int .i64 0] ∧ IsG (gotK xs n) x0 W,
   ab fun v W => IsG (gotK xs n) v W,
   is (.int .i64 ((wasK p os xs n))),
   is (.int .i64 0),
   is (.int .i64 0),
   is (.int .i64 0)])
  ⟨is_k, is_k, ab_k fun v W W' hb ⟨x0, e, h0⟩ => ⟨x0, e, (h0.below hb)⟩, ab_k fun v W W' hb ⟨x0, e, h0⟩ => ⟨x0, e, (h0.below hb)⟩, ab_k fun v W W' hb h => (h.below hb), is_k, is_k, is_k, is_k, trivial⟩
  ⟨fun f s W d j l m q a => opl rfl rfl rfl (a.v 12 k5_12) (blk_below b5_1 d) Try.underlying87 rfl (by kernel_rfl) rfl,
  fun f s W d j l m q a => opv rfl rfl (by simp [go_sem, a.e 2 k5_2]) rfl,
  fun f s W d j l m q a => by have r := below_trans fB5 d; exact opDo_call rfl rfl (by simp [go_sem, a.e 27 (j 0 rfl), a.e 28 (j 1 rfl)]) (does_ok p os bo oo co n c bq oq al xs ad cp W (hO.below r) hp ho hal (hS.below r) hg hwr) ((fun e W' h => by obtain ⟨v, e1, h1, h2⟩ := h; exact ⟨_, e1, h2, ⟨v, rfl, h1⟩⟩)),
  fun f s W d j l m q a => opv (v := (f 2)) rfl rfl (by simp [go_sem, (a.at' 29 rfl : q.tmps[29]?.getD undef = f 2)] <;> rfl) (j 2 rfl),
  fun f s W d j l m q a => by obtain ⟨x3_0, d3, p3_0⟩ := (j 3 rfl); exact opv (v := x3_0) rfl rfl (by simp [go_sem, a.e 26 d3]) p3_0,
  fun f s W d j l m q a => by obtain ⟨x3_0, d3, p3_0⟩ := (j 3 rfl); exact opv rfl rfl (by simp [go_sem, a.e 26 d3]) rfl,
  fun f s W d j l m q a => by obtain ⟨x3_0, d3, p3_0⟩ := (j 3 rfl); exact opv rfl rfl (by simp [go_sem, a.e 26 d3]) rfl,
  fun f s W d j l m q a => by obtain ⟨x3_0, d3, p3_0⟩ := (j 3 rfl); exact opv rfl rfl (by simp [go_sem, a.e 26 d3]) rfl,
  fun f s W d j l m q a => opv rfl rfl (by simp [go_sem, a.e 33 (j 7 rfl)]) rfl, trivial⟩ ?_
 intro f6 s6 W6 hB6 g6 hg6
 have fB6 := hB6.f fB5
 have z6 := hB6.below.size
 have b6_0 := hB6.b b5_0
 have b6_1 := hB6.b b5_1
 refine hK3 _ _ ?_
 have k6_1 := kt hg6 1 k5_1
 have k6_2 := kt hg6 2 k5_2
 have k6_3 := kt hg6 3 k5_3
 have k6_4 := kt hg6 4 k5_4
 have k6_10 := kt hg6 10 k5_10
 have k6_11 := kt hg6 11 (hB6.is 8)
 refine wp_seq_k fun K6 hK6 => ?_
 refine wp_block ?_
 refine wp_seq_k fun K7 hK7 => ?_
 refine region_dk 3 [(35, 0), (36, 1), (34, 2)] [[], [0], [0, 1]] (rel [is (.int .i64 0),
   is (.bool false),
   is (.bool false)])
  ⟨is_k, is_k, is_k, trivial⟩
  ⟨fun f s W d j l m q a => opv rfl rfl (by simp [go_sem, a.e 11 k6_11]) rfl,
  fun f s W d j l m q a => opv rfl rfl (by simp [go_sem, a.e 35 (j 0 rfl)]) rfl,
  fun f s W d j l m q a => opv rfl rfl (by simp [go_sem, a.e 36 (j 1 rfl)]) rfl, trivial⟩ ?_
 intro f7 s7 W7 hB7 g7 hg7
 have fB7 := hB7.f fB6
 have z7 := hB7.below.size
 have b7_0 := hB7.b b6_0
 have b7_1 := hB7.b b6_1
 refine hK7 _ _ ?_
 have k7_1 := kt hg7 1 k6_1
 have k7_2 := kt hg7 2 k6_2
 have k7_3 := kt hg7 3 k6_3
 have k7_4 := kt hg7 4 k6_4
 have k7_10 := kt hg7 10 k6_10
 have k7_11 := kt hg7 11 k6_11
 have k7_34 := kt hg7 34 (hB7.is 2)
 refine wp_cond_false ((fr_eval rfl).trans k7_34) ?_
 refine wp_seq_k fun K9 hK9 => ?_
 refine wp_seq_k fun K10 hK10 => ?_
 refine region_dk 8 [(39, 0), (40, 1), (41, 2), (42, 3), (43, 4), (44, 5), (45, 6), (38, 7)] [[], [0], [0, 1], [], [3], [0, 1, 2, 3, 4], [0, 1, 2, 3, 4, 5], [0, 1, 2, 3, 4, 5, 6]] (rel [is (.slice (al) (n) (c)),
   is (.int .i64 ((n : Int))),
   is (.int .i64 ((n : Int) - 1)),
   is (.int .i64 ((at_ : Int))),
   row 4 1 #[.int .i64 ((at_ : Int))] 3,
   is (.bool true),
   is (.bool false),
   is (.bool false)])
  ⟨is_k, is_k, is_k, is_k, row_k, is_k, is_k, is_k, trivial⟩
  ⟨fun f s W d j l m q a => opv rfl rfl (by simp [go_sem, a.e 2 k7_2]) rfl,
  fun f s W d j l m q a => opv rfl rfl (by simp [go_sem, a.e 39 (j 0 rfl)]) rfl,
  fun f s W d j l m q a => opv rfl rfl (by simp [go_sem, a.e 40 (j 1 rfl), IntWalk.i64_in ((n : Int) - 1) (by omega)]) rfl,
  fun f s W d j l m q a => opv rfl rfl (by simp [go_sem, a.e 3 k7_3]) rfl,
  fun f s W d j l m q a => opr rfl rfl (by simp [go_sem, a.e 42 (j 3 rfl)]),
  fun f s W d j l m q a => opDo_call (args := #[.int .i64 0, .int .i64 ((n : Int) - 1), .slice (some ⟨(s 4), 0, none⟩) (1) (1)]) rfl rfl (by simp [go_sem, a.e 41 (j 2 rfl), a.e 43 (j 4 rfl).1]) (tr_within_any (0) ((n : Int) - 1) _ 1 1 [(at_ : Int)] W (ii_block (xs := [(at_ : Int)]) (j 4 rfl).2 rfl rfl)) ((fun e W' h => by have h1 := h.1; rw [within1_iff.2 (by omega)] at h1; exact ⟨_, h1, h.2, rfl⟩)),
  fun f s W d j l m q a => opv rfl rfl (by simp [go_sem, a.e 44 (j 5 rfl)]) rfl,
  fun f s W d j l m q a => opv rfl rfl (by simp [go_sem, a.e 45 (j 6 rfl)]) rfl, trivial⟩ ?_
 intro f8 s8 W8 hB8 g8 hg8
 have fB8 := hB8.f fB7
 have z8 := hB8.below.size
 have b8_0 := hB8.b b7_0
 have b8_1 := hB8.b b7_1
 obtain ⟨r8_4, br8_4⟩ := hB8.is 4
 have lr8_4 := hB8.lr 4 br8_4
 refine hK10 _ _ ?_
 have k8_1 := kt hg8 1 k7_1
 have k8_2 := kt hg8 2 k7_2
 have k8_3 := kt hg8 3 k7_3
 have k8_4 := kt hg8 4 k7_4
 have k8_10 := kt hg8 10 k7_10
 have k8_11 := kt hg8 11 k7_11
 have k8_38 := kt hg8 38 (hB8.is 7)
 refine wp_cond_false ((fr_eval rfl).trans k8_38) ?_
 refine region_dk 10 [(46, 0), (47, 1), (48, 2), (49, 3), (50, 4), (51, 5), (52, 6), (53, 7), (54, 8), (38, 9)] [[], [], [0, 1], [0, 1, 2], [0, 1, 2, 3], [], [5], [0, 1, 2, 3, 4, 5, 6], [0, 1, 2, 3, 4, 5, 6, 7], [0, 1, 2, 3, 4, 5, 6, 7, 8]] (rel [is (.slice (al) (n) (c)),
   is (.int .i64 ((at_ : Int))),
   is (.pointer (some ⟨bq, oq + at_ * 2, none⟩)),
   is (.pointer (some ⟨bq, oq + at_ * 2 + 1, none⟩)),
   is (.int .i64 ((xs at_).2)),
   is (.int .i64 dn),
   row 6 1 #[.int .i64 dn] 3,
   is (.bool true),
   is (.bool false),
   is (.bool false)])
  ⟨is_k, is_k, is_k, is_k, is_k, is_k, row_k, is_k, is_k, is_k, trivial⟩
  ⟨fun f s W d j l m q a => opv rfl rfl (by simp [go_sem, a.e 2 k8_2]) rfl,
  fun f s W d j l m q a => opv rfl rfl (by simp [go_sem, a.e 3 k8_3]) rfl,
  fun f s W d j l m q a => by have li_ := Nat.not_le.2 (show at_ < n by omega); have li2_ : ((at_ : Nat) : Int) < (n : Int) := (by omega); have hab := hal (by omega); exact opv rfl rfl (by simp [go_sem, a.e 46 (j 0 rfl), a.e 47 (j 1 rfl), li_, li2_, hab]) rfl,
  fun f s W d j l m q a => opv rfl rfl (by simp [go_sem, a.e 48 (j 2 rfl)]) rfl,
  fun f s W d j l m q a => by have r := below_trans fB8 d; have cu_ := (hS.below r).2 at_ (by omega); have cu0_ := cu_.1; have cu1_ := cu_.2.1; exact opv rfl rfl (by simp [go_sem, a.e 49 (j 3 rfl), cu0_, cu1_]) rfl,
  fun f s W d j l m q a => opv rfl rfl (by simp [go_sem, a.e 4 k8_4]) rfl,
  fun f s W d j l m q a => opr rfl rfl (by simp [go_sem, a.e 51 (j 5 rfl)]),
  fun f s W d j l m q a => opDo_call (args := #[.int .i64 0, .int .i64 ((xs at_).2), .slice (some ⟨(s 6), 0, none⟩) (1) (1)]) rfl rfl (by simp [go_sem, a.e 50 (j 4 rfl), a.e 52 (j 6 rfl).1]) (tr_within_any (0) ((xs at_).2) _ 1 1 [dn] W (ii_block (xs := [dn]) (j 6 rfl).2 rfl rfl)) ((fun e W' h => by have h1 := h.1; rw [within1_iff.2 (by omega)] at h1; exact ⟨_, h1, h.2, rfl⟩)),
  fun f s W d j l m q a => opv rfl rfl (by simp [go_sem, a.e 53 (j 7 rfl)]) rfl,
  fun f s W d j l m q a => opv rfl rfl (by simp [go_sem, a.e 54 (j 8 rfl)]) rfl, trivial⟩ ?_
 intro f9 s9 W9 hB9 g9 hg9
 have fB9 := hB9.f fB8
 have z9 := hB9.below.size
 have b9_0 := hB9.b b8_0
 have b9_1 := hB9.b b8_1
 have b9_2 := hB9.b br8_4
 obtain ⟨r9_6, br9_6⟩ := hB9.is 6
 have lr9_6 := hB9.lr 6 br9_6
 refine hK9 _ _ ?_
 have k9_1 := kt hg9 1 k8_1
 have k9_2 := kt hg9 2 k8_2
 have k9_3 := kt hg9 3 k8_3
 have k9_4 := kt hg9 4 k8_4
 have k9_10 := kt hg9 10 k8_10
 have k9_11 := kt hg9 11 k8_11
 have k9_38 := kt hg9 38 (hB9.is 9)
 refine wp_cond_false ((fr_eval rfl).trans k9_38) ?_
 refine wp_skip ?_
 refine inBlock_normal ?_
 refine hK6 _ _ ?_
 refine wp_seq_k fun K13 hK13 => ?_
 refine region_dk 4 [(55, 0), (56, 1), (57, 2), (13, 3)] [[], [0], [0, 1], [0, 1, 2]] (rel [is (.slice (some ⟨bo, oo, none⟩) (3) (co)),
   is (.int .i64 3),
   row 2 3 #[.int .i64 0, .int .i64 0, .int .i64 0] 3,
   isS fun s => .slice (some ⟨(s 2), 0, none⟩) (3) (3)])
  ⟨is_k, is_k, row_k, isS_k fun s s' e => by rw [e 2 (by simp)], trivial⟩
  ⟨fun f s W d j l m q a => opv rfl rfl (by simp [go_sem, a.e 1 k9_1]) rfl,
  fun f s W d j l m q a => opv rfl rfl (by simp [go_sem, a.e 55 (j 0 rfl)]) rfl,
  fun f s W d j l m q a => opr rfl rfl (by simp [go_sem, a.e 56 (j 1 rfl)]; kernel_rfl),
  fun f s W d j l m q a => opv rfl rfl (by simp [go_sem, a.e 57 (j 2 rfl).1, upd]) rfl, trivial⟩ ?_
 intro f10 s10 W10 hB10 g10 hg10
 have fB10 := hB10.f fB9
 have z10 := hB10.below.size
 have b10_0 := hB10.b b9_0
 have b10_1 := hB10.b b9_1
 have b10_2 := hB10.b b9_2
 have b10_3 := hB10.b br9_6
 obtain ⟨r10_2, br10_2⟩ := hB10.is 2
 have lr10_2 := hB10.lr 2 br10_2
 refine hK13 _ _ ?_
 have k10_1 := kt hg10 1 k9_1
 have k10_2 := kt hg10 2 k9_2
 have k10_3 := kt hg10 3 k9_3
 have k10_4 := kt hg10 4 k9_4
 have k10_10 := kt hg10 10 k9_10
 have k10_11 := kt hg10 11 k9_11
 have k10_13 := kt hg10 13 (hB10.is 3)
 obtain ⟨bg, hbg⟩ : ∃ b, (s10 2) = b := ⟨_, rfl⟩
 have og0 : Ii W10 (some ⟨bg, 0, none⟩) 3 3 (gotK xs 0) := hbg ▸ ii_block (xs := [0, 0, 0]) br10_2 rfl rfl
 have og1 : bg < W10.heap.size := ii_lt3 og0 (by rw [gotK_len]; decide)
 have k13_ : g10 13 = .slice (some ⟨bg, 0, none⟩) 3 3 := hbg ▸ k10_13
 refine wp_seq_k fun K14 hK14 => ?_
 refine wp_seq_k fun K15 hK15 => ?_
 refine region_dk 5 [(58, 0), (59, 1), (60, 2), (61, 3), (62, 4)] [[], [], [0, 1], [0, 1, 2], []] (rel [is (.slice (al) (n) (c)),
   is (.int .i64 ((at_ : Int))),
   is (.slice (some ⟨bq, oq, none⟩) (at_) (c)),
   is (.int .i64 ((at_ : Int))),
   is (.int .i64 0)])
  ⟨is_k, is_k, is_k, is_k, is_k, trivial⟩
  ⟨fun f s W d j l m q a => opv rfl rfl (by simp [go_sem, a.e 2 k10_2]) rfl,
  fun f s W d j l m q a => opv rfl rfl (by simp [go_sem, a.e 3 k10_3]) rfl,
  fun f s W d j l m q a => by have hab := hal (by omega); exact opv rfl rfl (by simp [go_sem, a.e 58 (j 0 rfl), a.e 59 (j 1 rfl), hab, show ((at_ : Nat) : Int) ≤ (c : Int) from by omega]) rfl,
  fun f s W d j l m q a => opv rfl rfl (by simp [go_sem, a.e 60 (j 2 rfl)]) rfl,
  fun f s W d j l m q a => opv rfl rfl (by simp [go_sem]) rfl, trivial⟩ ?_
 intro f11 s11 W11 hB11 g11 hg11
 have fB11 := hB11.f fB10
 have z11 := hB11.below.size
 have q55' := (og0.bw hB11)
 have q56' := (hB11.lt og1)
 refine hK15 _ _ ?_
 have k11_1 := kt hg11 1 k10_1
 have k11_2 := kt hg11 2 k10_2
 have k11_3 := kt hg11 3 k10_3
 have k11_4 := kt hg11 4 k10_4
 have k11_10 := kt hg11 10 k10_10
 have k11_11 := kt hg11 11 k10_11
 have k11_13 := kt hg11 13 k13_
 have k11_60 := kt hg11 60 (hB11.is 2)
 have k11_61 := kt hg11 61 (hB11.is 3)
 have k11_62 := kt hg11 62 (hB11.is 4)
 refine wp_block ?_
 refine wp_loop_n (fun m_ a_ W_ => ∃ g_ : Nat → Value, a_ = fr 112 g_ ∧ (∃ k : Nat, ∃ gq : Nat, ∃ cq : Nat, m_ = at_ - k ∧ g_ 1 = .slice (some ⟨bo, oo, none⟩) (3) (co) ∧ g_ 2 = .slice (al) (n) (c) ∧ g_ 3 = .int .i64 ((at_ : Int)) ∧ g_ 4 = .int .i64 dn ∧ g_ 10 = .slice (none) (0) (0) ∧ g_ 11 = .int .i64 0 ∧ g_ 60 = .slice (some ⟨bq, oq, none⟩) (at_) (c) ∧ g_ 61 = .int .i64 ((at_ : Int)) ∧ g_ 62 = .int .i64 ((k : Int)) ∧ g_ 13 = .slice (some ⟨gq, 0, none⟩) (3) (cq) ∧ Below w.heap.size w W_ ∧ W11.heap.size ≤ W_.heap.size ∧ Ii W_ (some ⟨gq, 0, none⟩) 3 cq (gotK xs k) ∧ gq < W_.heap.size ∧ (k ≤ at_))) ⟨_, g11, rfl, 0, bg, 3, rfl, k11_1, k11_2, k11_3, k11_4, k11_10, k11_11, k11_60, k11_61, k11_62.trans (by rfl), k11_13.trans (by rfl), fB11, Nat.le_refl _, q55', q56', (by omega)⟩ ?_
 rintro _ _ W_57 ⟨g_57, rfl, k, gq, cq, rfl, k_57_1, k_57_2, k_57_3, k_57_4, k_57_10, k_57_11, k_57_60, k_57_61, k_57_62, k_57_13, fB_57, z_57, q58', q59', lk0⟩
 refine wp_seq_k fun K16 hK16 => ?_
 refine region_dk 1 [(63, 0)] [[]] (rel [is (.bool (decide ((k : Int) < (at_ : Int))))])
  ⟨is_k, trivial⟩
  ⟨fun f s W d j l m q a => opv rfl rfl (by simp [go_sem, a.e 62 k_57_62, a.e 61 k_57_61]) rfl, trivial⟩ ?_
 intro f12 s12 W12 hB12 g12 hg12
 have fB12 := hB12.f fB_57
 have z12 := hB12.below.size
 have q60' := (q58'.bw hB12)
 have q61' := (hB12.lt q59')
 refine hK16 _ _ ?_
 have k12_1 := kt hg12 1 k_57_1
 have k12_2 := kt hg12 2 k_57_2
 have k12_3 := kt hg12 3 k_57_3
 have k12_4 := kt hg12 4 k_57_4
 have k12_10 := kt hg12 10 k_57_10
 have k12_11 := kt hg12 11 k_57_11
 have k12_60 := kt hg12 60 k_57_60
 have k12_61 := kt hg12 61 k_57_61
 have k12_62 := kt hg12 62 k_57_62
 have k12_13 := kt hg12 13 k_57_13
 have k12_63 := kt hg12 63 (hB12.is 0)
 refine wp_seq_k fun K17 hK17 => ?_
 refine wp_cond_split (t := decide ((k : Int) < (at_ : Int))) ((fr_eval rfl).trans k12_63) (fun hc18 => ?_) (fun hc18 => ?_)
 ·
  have hc18' := hc18; try simp only [ba] at hc18'
  have hkn : k < at_ := by omega
  have hrk_ := hg.rn k (by omega)
  refine wp_skip ?_
  refine hK17 _ _ ?_
  refine wp_seq_k fun K19 hK19 => ?_
  refine wp_block ?_
  refine wp_seq_k fun K20 hK20 => ?_
  refine region_dk 3 [(64, 0), (65, 1), (15, 2)] [[], [0], [], [0, 1, 2]] (rel [is (.pointer (some ⟨bq, oq + k * 2, none⟩)),
   is (.agg #[.slice ((ad k)) ((xs k).1.length) ((cp k)), .int .i64 ((xs k).2)]),
   bx 2 #[.slice (none) (0) (0), .int .i64 0] 70])
   ⟨is_k, is_k, bx_k, trivial⟩
   ⟨fun f s W d j l m q a => by have li_ := Nat.not_le.2 (show k < at_ by omega); have li2_ : ((k : Nat) : Int) < (at_ : Int) := (by omega); exact opv rfl rfl (by simp [go_sem, a.e 60 k12_60, a.e 62 k12_62, li_, li2_]) rfl,
  fun f s W d j l m q a => by have r := below_trans fB12 d; have cu_ := (hS.below r).2 k (by omega); have cu0_ := cu_.1; have cu1_ := cu_.2.1; exact opv rfl rfl (by simp [go_sem, a.e 64 (j 0 rfl), cu0_, cu1_]) rfl,
  fun f s W d j l m q a => opb rfl rfl (by simp [go_sem]), trivial⟩ ?_
  intro f13 s13 W13 hB13 g13 hg13
  have fB13 := hB13.f fB12
  have z13 := hB13.below.size
  have q62' := (q60'.bw hB13)
  have q63' := (hB13.lt q61')
  obtain ⟨r13_2, br13_2⟩ := hB13.is 2
  have lr13_2 := hB13.lr 2 br13_2
  have k13_1 := kt hg13 1 k12_1
  have k13_2 := kt hg13 2 k12_2
  have k13_3 := kt hg13 3 k12_3
  have k13_4 := kt hg13 4 k12_4
  have k13_10 := kt hg13 10 k12_10
  have k13_11 := kt hg13 11 k12_11
  have k13_60 := kt hg13 60 k12_60
  have k13_61 := kt hg13 61 k12_61
  have k13_62 := kt hg13 62 k12_62
  have k13_13 := kt hg13 13 k12_13
  have k13_65 := kt hg13 65 (hB13.is 1)
  have k13_15 := kt hg13 15 r13_2
  obtain ⟨W14, hW14⟩ : ∃ W', W' = W13.setRow (s13 2) #[.slice ((ad k)) ((xs k).1.length) ((cp k)), .int .i64 ((xs k).2)] := ⟨_, rfl⟩
  refine tail_skip (o := _) rfl ⟨rfl, rfl⟩ (run_seg hW14 (fr_ev k13_15) (fr_ev k13_65) br13_2 rfl rfl rfl rfl) ?_
  obtain ⟨fB14, nb14, ot14, z14⟩ := seg_facts hW14 fB13 br13_2 (by omega)
  clear hW14
  have q64' := (q62'.other ot14 q63' (by omega) z14)
  have q65' := Nat.lt_of_lt_of_le q63' z14
  refine wpOps_end ?_
  refine hK20 _ _ ?_
  refine region_dk 4 [(66, 0), (67, 1), (68, 2), (13, 3)] [[], [], [0, 1], [0, 1, 2]] (rel [is (.slice (some ⟨gq, 0, none⟩) (3) (cq)),
   is (.agg #[.slice ((ad k)) ((xs k).1.length) ((cp k)), .int .i64 ((xs k).2)]),
   ab fun v W => IsG (gotK xs (k + 1)) v W,
   ab fun v W => IsG (gotK xs (k + 1)) v W])
   ⟨is_k, is_k, ab_k fun v W W' hb h => (h.below hb), ab_k fun v W W' hb h => (h.below hb), trivial⟩
   ⟨fun f s W d j l m q a => opv rfl rfl (by simp [go_sem, a.e 13 ((m 3 13 rfl rfl).trans k13_13)]) rfl,
  fun f s W d j l m q a => opv rfl rfl (by simp [go_sem, a.e 15 k13_15, cb nb14 d 0, cb nb14 d 1]) rfl,
  fun f s W d j l m q a => by have r := below_trans fB14 d; exact opDo_call rfl rfl (by simp [go_sem, a.e 66 (j 0 rfl), a.e 67 (j 1 rfl)]) (add_any (some ⟨gq, 0, none⟩) 3 cq (gotK xs k) (ad k) (xs k).1.length (cp k) (xs k).1 (xs k).2 W ((q64'.below d (Nat.le_refl _))) ((hS.below r).2 k (by omega)).2.2 (by decide) (by have := hg.ln k (by omega); omega) (fun i => by have := gotK_bd hg k (by omega) i; omega) (getD_bd (hg.bd k (by omega)) (by decide)) (by have := hg.rn k (by omega); omega)) ((fun e W' h => by obtain ⟨v, e1, ⟨g_, c_, e2, h3⟩, h2⟩ := h; rw [hg.ln k (by omega)] at h3; exact ⟨_, e1, h2, ⟨g_, c_, e2, by have h4 := h3.ii; rw [addK_len, gotK_len] at h4; exact h4, h3.2.1⟩⟩)),
  fun f s W d j l m q a => opv (v := (f 2)) rfl rfl (by simp [go_sem, (a.at' 68 rfl : q.tmps[68]?.getD undef = f 2)] <;> rfl) (j 2 rfl), trivial⟩ ?_
  intro f15 s15 W15 hB15 g15 hg15
  have fB15 := hB15.f fB14
  have z15 := hB15.below.size
  have b15_0 := hB15.b nb14
  have q70' := (q64'.bw hB15)
  have q71' := (hB15.lt q65')
  obtain ⟨g72', c73', r15_3, q74', q75'⟩ := hB15.is 3
  refine wpOps_end ?_
  have k15_1 := kt hg15 1 k13_1
  have k15_2 := kt hg15 2 k13_2
  have k15_3 := kt hg15 3 k13_3
  have k15_4 := kt hg15 4 k13_4
  have k15_10 := kt hg15 10 k13_10
  have k15_11 := kt hg15 11 k13_11
  have k15_60 := kt hg15 60 k13_60
  have k15_61 := kt hg15 61 k13_61
  have k15_62 := kt hg15 62 k13_62
  have k15_13 := kt hg15 13 r15_3
  refine inBlock_normal ?_
  refine hK19 _ _ ?_
  refine region_dk 2 [(69, 0), (62, 1)] [[], [0]] (rel [is (.int .i64 ((k : Int) + 1)),
   is (.int .i64 ((k : Int) + 1))])
   ⟨is_k, is_k, trivial⟩
   ⟨fun f s W d j l m q a => opv rfl rfl (by simp [go_sem, a.e 62 ((m 1 62 rfl rfl).trans k15_62), IntWalk.i64_in ((k : Int) + 1) (by omega)]) rfl,
  fun f s W d j l m q a => opv rfl rfl (by simp [go_sem, a.e 69 (j 0 rfl)]) rfl, trivial⟩ ?_
  intro f16 s16 W16 hB16 g16 hg16
  have fB16 := hB16.f fB15
  have z16 := hB16.below.size
  have b16_0 := hB16.b b15_0
  have q76' := (q70'.bw hB16)
  have q77' := (hB16.lt q71')
  have q78' := (q74'.bw hB16)
  have q79' := (hB16.lt q75')
  refine wpOps_end ?_
  have k16_1 := kt hg16 1 k15_1
  have k16_2 := kt hg16 2 k15_2
  have k16_3 := kt hg16 3 k15_3
  have k16_4 := kt hg16 4 k15_4
  have k16_10 := kt hg16 10 k15_10
  have k16_11 := kt hg16 11 k15_11
  have k16_60 := kt hg16 60 k15_60
  have k16_61 := kt hg16 61 k15_61
  have k16_13 := kt hg16 13 k15_13
  have k16_62 := kt hg16 62 (hB16.is 1)
  refine then_normal ?_
  exact ⟨_, by omega, g16, rfl, k + 1, g72', c73', rfl, k16_1, k16_2, k16_3, k16_4, k16_10, k16_11, k16_60, k16_61, k16_62.trans (by go_num), k16_13.trans (by go_num), fB16, (by omega), q78', q79', (by omega)⟩
 ·
  have hc18' := hc18; try simp only [ba] at hc18'
  have hkn : k = at_ := by omega
  refine wp_exit ?_
  refine then_exit ?_
  refine then_exit ?_
  refine inBlock_at ?_
  refine hK14 _ _ ?_
  refine wp_seq_k fun K21 hK21 => ?_
  skip
  ·
   have q80' : Ii W12 (some ⟨gq, 0, none⟩) 3 cq (gotK xs at_) := hkn ▸ q60'
   refine region_dk 10 [(70, 0), (71, 1), (72, 2), (73, 3), (74, 4), (75, 5), (76, 6), (77, 7), (78, 8), (13, 9)] [[], [], [], [1, 2], [1, 2, 3], [1, 2, 3, 4], [], [1, 2, 3, 4, 5, 6], [0, 1, 2, 3, 4, 5, 6, 7], [0, 1, 2, 3, 4, 5, 6, 7, 8]] (rel [is (.slice (some ⟨gq, 0, none⟩) (3) (cq)),
   is (.slice (al) (n) (c)),
   is (.int .i64 ((at_ : Int))),
   is (.pointer (some ⟨bq, oq + at_ * 2, none⟩)),
   is (.pointer (some ⟨bq, oq + at_ * 2, none⟩)),
   is (.slice ((ad at_)) ((xs at_).1.length) ((cp at_))),
   is (.int .i64 dn),
   is (.agg #[.slice ((ad at_)) ((xs at_).1.length) ((cp at_)), .int .i64 dn]),
   ab fun v W => IsG (gf) v W,
   ab fun v W => IsG (gf) v W])
    ⟨is_k, is_k, is_k, is_k, is_k, is_k, is_k, is_k, ab_k fun v W W' hb h => (h.below hb), ab_k fun v W W' hb h => (h.below hb), trivial⟩
    ⟨fun f s W d j l m q a => opv rfl rfl (by simp [go_sem, a.e 13 ((m 9 13 rfl rfl).trans k12_13)]) rfl,
  fun f s W d j l m q a => opv rfl rfl (by simp [go_sem, a.e 2 k12_2]) rfl,
  fun f s W d j l m q a => opv rfl rfl (by simp [go_sem, a.e 3 k12_3]) rfl,
  fun f s W d j l m q a => by have li_ := Nat.not_le.2 (show at_ < n by omega); have li2_ : ((at_ : Nat) : Int) < (n : Int) := (by omega); have hab := hal (by omega); exact opv rfl rfl (by simp [go_sem, a.e 71 (j 1 rfl), a.e 72 (j 2 rfl), li_, li2_, hab]) rfl,
  fun f s W d j l m q a => opv rfl rfl (by simp [go_sem, a.e 73 (j 3 rfl)]) rfl,
  fun f s W d j l m q a => by have r := below_trans fB12 d; have cu_ := (hS.below r).2 at_ (by omega); have cu0_ := cu_.1; have cu1_ := cu_.2.1; exact opv rfl rfl (by simp [go_sem, a.e 74 (j 4 rfl), cu0_, cu1_]) rfl,
  fun f s W d j l m q a => opv rfl rfl (by simp [go_sem, a.e 4 k12_4]) rfl,
  fun f s W d j l m q a => opv rfl rfl (by simp [go_sem, a.e 75 (j 5 rfl), a.e 76 (j 6 rfl)]) rfl,
  fun f s W d j l m q a => by have r := below_trans fB12 d; exact opDo_call (args := #[.slice (some ⟨gq, 0, none⟩) (3) (cq), .agg #[.slice ((ad at_)) ((xs at_).1.length) ((cp at_)), .int .i64 dn]]) rfl rfl (by simp [go_sem, a.e 70 (j 0 rfl), a.e 77 (j 7 rfl)]) (add_any (some ⟨gq, 0, none⟩) 3 cq (gotK xs at_) (ad at_) (xs at_).1.length (cp at_) (xs at_).1 dn W ((q80'.below d (Nat.le_refl _))) ((hS.below r).2 at_ (by omega)).2.2 (by decide) (by have := hg.ln at_ (by omega); omega) (fun i => by have := gotK_bd hg at_ (by omega) i; omega) (getD_bd (hg.bd at_ (by omega)) (by decide)) (by have := hg.rn at_ (by omega); omega)) ((fun e W' h => by obtain ⟨v, e1, ⟨g_, c_, e2, h3⟩, h2⟩ := h; rw [hg.ln at_ (by omega), hgf] at h3; exact ⟨_, e1, h2, ⟨g_, c_, e2, by have h4 := h3.ii; rw [hgfl] at h4; exact h4, h3.2.1⟩⟩)),
  fun f s W d j l m q a => opv (v := (f 8)) rfl rfl (by simp [go_sem, (a.at' 78 rfl : q.tmps[78]?.getD undef = f 8)] <;> rfl) (j 8 rfl), trivial⟩ ?_
   intro f17 s17 W17 hB17 g17 hg17
   have fB17 := hB17.f fB12
   have z17 := hB17.below.size
   have q85' := (hB17.lt q61')
   have q86' := (q80'.bw hB17)
   obtain ⟨g87', c88', r17_9, q89', q90'⟩ := hB17.is 9
   refine hK21 _ _ ?_
   have k17_1 := kt hg17 1 k12_1
   have k17_10 := kt hg17 10 k12_10
   have k17_11 := kt hg17 11 k12_11
   have k17_13 := kt hg17 13 r17_9
   obtain ⟨gz, hgz⟩ : ∃ b, g87' = b := ⟨_, rfl⟩; obtain ⟨cz, hcz⟩ : ∃ b, c88' = b := ⟨_, rfl⟩
   have og2 : Ii W17 (some ⟨gz, 0, none⟩) 3 cz gf := hgz ▸ hcz ▸ q89'; have ol2 : gz < W17.heap.size := hgz ▸ q90'; have k13z : g17 13 = .slice (some ⟨gz, 0, none⟩) 3 cz := hgz ▸ hcz ▸ k17_13
   have on0 : OwnN 72 3 w.heap.size 0 (orC (osL os gf) 0) none 0 W17 := ownN_nil
   have hgb_ := hgfb
   refine wp_seq_k fun K22 hK22 => ?_
   refine wp_seq_k fun K23 hK23 => ?_
   refine region_dk 3 [(79, 0), (80, 1), (81, 2)] [[], [0], []] (rel [is (.slice (some ⟨bo, oo, none⟩) (3) (co)),
   is (.int .i64 3),
   is (.int .i64 0)])
    ⟨is_k, is_k, is_k, trivial⟩
    ⟨fun f s W d j l m q a => opv rfl rfl (by simp [go_sem, a.e 1 k17_1]) rfl,
  fun f s W d j l m q a => opv rfl rfl (by simp [go_sem, a.e 79 (j 0 rfl)]) rfl,
  fun f s W d j l m q a => opv rfl rfl (by simp [go_sem]) rfl, trivial⟩ ?_
   intro f18 s18 W18 hB18 g18 hg18
   have fB18 := hB18.f fB17
   have z18 := hB18.below.size
   have q91' := (og2.bw hB18)
   have q92' := (hB18.lt ol2)
   have q93' := (on0.below hB18.below)
   refine hK23 _ _ ?_
   have k18_10 := kt hg18 10 k17_10
   have k18_11 := kt hg18 11 k17_11
   have k18_13 := kt hg18 13 k13z
   have k18_79 := kt hg18 79 (hB18.is 0)
   have k18_80 := kt hg18 80 (hB18.is 1)
   have k18_81 := kt hg18 81 (hB18.is 2)
   refine wp_block ?_
   refine wp_loop_n (fun m_ a_ W_ => ∃ g_ : Nat → Value, a_ = fr 112 g_ ∧ (∃ k : Nat, ∃ aq : Option Addr, ∃ cq2 : Nat, m_ = 3 - k ∧ g_ 11 = .int .i64 0 ∧ g_ 13 = .slice (some ⟨gz, 0, none⟩) (3) (cz) ∧ g_ 79 = .slice (some ⟨bo, oo, none⟩) (3) (co) ∧ g_ 80 = .int .i64 3 ∧ g_ 81 = .int .i64 ((k : Int)) ∧ g_ 10 = .slice (aq) (k) (cq2) ∧ Below w.heap.size w W_ ∧ W18.heap.size ≤ W_.heap.size ∧ OwnN 72 3 w.heap.size k (orC (osL os gf) k) aq cq2 W_ ∧ Ii W_ (some ⟨gz, 0, none⟩) 3 cz (gf) ∧ gz < W_.heap.size ∧ (k ≤ 3) ∧ (∀ g, aq = some ⟨g, 0, none⟩ → g ≠ gz))) ⟨_, g18, rfl, 0, none, 0, rfl, k18_11, k18_13, k18_79, k18_80, k18_81.trans (by rfl), k18_10.trans (by rfl), fB18, Nat.le_refl _, q93', q91', q92', (by omega), fun g e => nomatch e⟩ ?_
   rintro _ _ W_94 ⟨g_94, rfl, k, aq, cq2, rfl, k_94_11, k_94_13, k_94_79, k_94_80, k_94_81, k_94_10, fB_94, z_94, q95', q96', q97', lm0, lm1⟩
   have hap := lm1
   have hgk_ := hgfb k
   refine wp_seq_k fun K24 hK24 => ?_
   refine region_dk 1 [(82, 0)] [[]] (rel [is (.bool (decide ((k : Int) < 3)))])
    ⟨is_k, trivial⟩
    ⟨fun f s W d j l m q a => opv rfl rfl (by simp [go_sem, a.e 81 k_94_81, a.e 80 k_94_80]) rfl, trivial⟩ ?_
   intro f19 s19 W19 hB19 g19 hg19
   have fB19 := hB19.f fB_94
   have z19 := hB19.below.size
   have q98' := (q95'.below hB19.below)
   have q99' := (q96'.bw hB19)
   have q100' := (hB19.lt q97')
   refine hK24 _ _ ?_
   have k19_11 := kt hg19 11 k_94_11
   have k19_13 := kt hg19 13 k_94_13
   have k19_79 := kt hg19 79 k_94_79
   have k19_80 := kt hg19 80 k_94_80
   have k19_81 := kt hg19 81 k_94_81
   have k19_10 := kt hg19 10 k_94_10
   have k19_82 := kt hg19 82 (hB19.is 0)
   refine wp_seq_k fun K25 hK25 => ?_
   refine wp_cond_split (t := decide ((k : Int) < 3)) ((fr_eval rfl).trans k19_82) (fun hc26 => ?_) (fun hc26 => ?_)
   ·
    have hc26' := hc26; try simp only [ba] at hc26'
    have hk3 : k < 3 := by omega
    have hok_ := (ho k hk3).need
    have limA := OwnN.lim q98'
    refine wp_skip ?_
    refine hK25 _ _ ?_
    refine wp_seq_k fun K27 hK27 => ?_
    refine wp_block ?_
    refine wp_seq_k fun K28 hK28 => ?_
    refine region_dk 5 [(83, 0), (84, 1), (85, 2), (17, 3), (16, 4)] [[], [], [1], [], [0, 1, 2, 3], [0, 1, 2, 3, 4]] (rel [is (.int .i64 ((k : Int))),
   is (.pointer (some ⟨bo, oo + k * 3, none⟩)),
   is (.agg #[.int .i64 ((os k).wd), .int .i64 ((os k).lo), .int .i64 ((os k).hi)]),
   bx 3 #[.int .i64 0, .int .i64 0, .int .i64 0] 72,
   is (.int .i64 ((k : Int)))])
     ⟨is_k, is_k, is_k, bx_k, is_k, trivial⟩
     ⟨fun f s W d j l m q a => opv rfl rfl (by simp [go_sem, a.e 81 k19_81]) rfl,
  fun f s W d j l m q a => by have li_ := Nat.not_le.2 (show k < 3 by omega); have li2_ : (k : Int) < 3 := (by omega); exact opv rfl rfl (by simp [go_sem, a.e 79 k19_79, a.e 81 k19_81, li_, li2_]) rfl,
  fun f s W d j l m q a => by have r := below_trans fB19 d; have cu_ := (hO.below r).2 k (by omega); have cu0_ : W.cell? ⟨bo, oo + k * 3, none⟩ = some (.int .i64 (os k).wd) := cu_.1; have cu1_ : W.cell? ⟨bo, oo + k * 3 + 1, none⟩ = some (.int .i64 (os k).lo) := cu_.2.1; have cu2_ : W.cell? ⟨bo, oo + k * 3 + 2, none⟩ = some (.int .i64 (os k).hi) := cu_.2.2; exact opv rfl rfl (by simp [go_sem, a.e 84 (j 1 rfl), cu0_, cu1_, cu2_]) rfl,
  fun f s W d j l m q a => opb rfl rfl (by simp [go_sem]),
  fun f s W d j l m q a => opv rfl rfl (by simp [go_sem, a.e 83 (j 0 rfl)]) rfl, trivial⟩ ?_
    intro f20 s20 W20 hB20 g20 hg20
    have fB20 := hB20.f fB19
    have z20 := hB20.below.size
    have q101' := (q98'.below hB20.below)
    have q102' := (q99'.bw hB20)
    have q103' := (hB20.lt q100')
    obtain ⟨r20_3, br20_3⟩ := hB20.is 3
    have lr20_3 := hB20.lr 3 br20_3
    have k20_11 := kt hg20 11 k19_11
    have k20_13 := kt hg20 13 k19_13
    have k20_79 := kt hg20 79 k19_79
    have k20_80 := kt hg20 80 k19_80
    have k20_81 := kt hg20 81 k19_81
    have k20_10 := kt hg20 10 k19_10
    have k20_85 := kt hg20 85 (hB20.is 2)
    have k20_17 := kt hg20 17 r20_3
    have k20_16 := kt hg20 16 (hB20.is 4)
    obtain ⟨W21, hW21⟩ : ∃ W', W' = W20.setRow (s20 3) #[.int .i64 ((os k).wd), .int .i64 ((os k).lo), .int .i64 ((os k).hi)] := ⟨_, rfl⟩
    refine tail_skip (o := _) rfl ⟨rfl, rfl⟩ (run_seg hW21 (fr_ev k20_17) (fr_ev k20_85) br20_3 rfl rfl rfl rfl) ?_
    obtain ⟨fB21, nb21, ot21, z21⟩ := seg_facts hW21 fB20 br20_3 (by omega)
    clear hW21
    have q104' := q101'.other ot21 (fun g e => by have := limA g e; omega) z21
    have q105' := (q102'.other ot21 q103' (by omega) z21)
    have q106' := Nat.lt_of_lt_of_le q103' z21
    refine wpOps_end ?_
    refine hK28 _ _ ?_
    refine wp_seq_k fun K29 hK29 => ?_
    refine region_dk 20 [(86, 0), (87, 1), (88, 2), (89, 3), (90, 4), (91, 5), (92, 6), (93, 7), (94, 8), (95, 9), (96, 10), (97, 11), (98, 12), (99, 13), (100, 14), (101, 15), (102, 16), (103, 17), (104, 18), (105, 19)] [[], [0], [0, 1], [], [], [3, 4], [3, 4, 5], [0, 1, 2, 3, 4, 5, 6], [0, 1, 2, 3, 4, 5, 6, 7], [], [9], [9, 10], [], [], [12, 13], [12, 13, 14], [9, 10, 11, 12, 13, 14, 15], [9, 10, 11, 12, 13, 14, 15, 16], [0, 1, 2, 3, 4, 5, 6, 7, 8, 9, 10, 11, 12, 13, 14, 15, 16, 17], [0, 1, 2, 3, 4, 5, 6, 7, 8, 9, 10, 11, 12, 13, 14, 15, 16, 17, 18], [0, 1, 2, 3, 4, 5, 6, 7, 8, 9, 10, 11, 12, 13, 14, 15, 16, 17, 18, 19]] (rel [is (.pointer (some ⟨(s20 3), 1, none⟩)),
   is (.pointer (some ⟨(s20 3), 1, none⟩)),
   is (.int .i64 ((os k).lo)),
   is (.slice (some ⟨gz, 0, none⟩) (3) (cz)),
   is (.int .i64 ((k : Int))),
   is (.pointer (some ⟨gz, k, none⟩)),
   is (.int .i64 ((elT (gf) k))),
   is (.int .i64 (((os k).lo) - (elT (gf) k))),
   is (.int .i64 (max 0 (((os k).lo) - (elT (gf) k)))),
   is (.pointer (some ⟨(s20 3), 1, none⟩)),
   is (.pointer (some ⟨(s20 3), 2, none⟩)),
   is (.int .i64 ((os k).hi)),
   is (.slice (some ⟨gz, 0, none⟩) (3) (cz)),
   is (.int .i64 ((k : Int))),
   is (.pointer (some ⟨gz, k, none⟩)),
   is (.int .i64 ((elT (gf) k))),
   is (.int .i64 (((os k).hi) - (elT (gf) k))),
   is (.int .i64 (max 0 (((os k).hi) - (elT (gf) k)))),
   is (.agg #[.int .i64 (max 0 (((os k).lo) - (elT (gf) k))), .int .i64 (max 0 (((os k).hi) - (elT (gf) k)))]),
   is (.pointer (some ⟨(s20 3), 1, none⟩))])
     ⟨is_k, is_k, is_k, is_k, is_k, is_k, is_k, is_k, is_k, is_k, is_k, is_k, is_k, is_k, is_k, is_k, is_k, is_k, is_k, is_k, trivial⟩
     ⟨fun f s W d j l m q a => opv rfl rfl (by simp [go_sem, a.e 17 k20_17]) rfl,
  fun f s W d j l m q a => opv rfl rfl (by simp [go_sem, a.e 86 (j 0 rfl)]) rfl,
  fun f s W d j l m q a => opv rfl rfl (by simp [go_sem, a.e 87 (j 1 rfl), cb nb21 d 1]) rfl,
  fun f s W d j l m q a => opv rfl rfl (by simp [go_sem, a.e 13 k20_13]) rfl,
  fun f s W d j l m q a => opv rfl rfl (by simp [go_sem, a.e 16 k20_16]) rfl,
  fun f s W d j l m q a => by have li_ := Nat.not_le.2 (show k < 3 by omega); have li2_ : (k : Int) < 3 := (by omega); exact opv rfl rfl (by simp [go_sem, a.e 89 (j 3 rfl), a.e 90 (j 4 rfl), li_, li2_]) rfl,
  fun f s W d j l m q a => by have cu_ := ii_at3 (q105'.below d (Nat.le_refl _)) (show k < 3 by omega); exact opv rfl rfl (by simp [go_sem, a.e 91 (j 5 rfl), cu_]) rfl,
  fun f s W d j l m q a => opv rfl rfl (by simp [go_sem, a.e 88 (j 2 rfl), a.e 92 (j 6 rfl), IntWalk.i64_in (((os k).lo) - (elT (gf) k)) (by omega)]) rfl,
  fun f s W d j l m q a => opv rfl rfl (by simp [go_sem, a.e 93 (j 7 rfl)]) rfl,
  fun f s W d j l m q a => opv rfl rfl (by simp [go_sem, a.e 17 k20_17]) rfl,
  fun f s W d j l m q a => opv rfl rfl (by simp [go_sem, a.e 95 (j 9 rfl)]) rfl,
  fun f s W d j l m q a => opv rfl rfl (by simp [go_sem, a.e 96 (j 10 rfl), cb nb21 d 2]) rfl,
  fun f s W d j l m q a => opv rfl rfl (by simp [go_sem, a.e 13 k20_13]) rfl,
  fun f s W d j l m q a => opv rfl rfl (by simp [go_sem, a.e 16 k20_16]) rfl,
  fun f s W d j l m q a => by have li_ := Nat.not_le.2 (show k < 3 by omega); have li2_ : (k : Int) < 3 := (by omega); exact opv rfl rfl (by simp [go_sem, a.e 98 (j 12 rfl), a.e 99 (j 13 rfl), li_, li2_]) rfl,
  fun f s W d j l m q a => by have cu_ := ii_at3 (q105'.below d (Nat.le_refl _)) (show k < 3 by omega); exact opv rfl rfl (by simp [go_sem, a.e 100 (j 14 rfl), cu_]) rfl,
  fun f s W d j l m q a => opv rfl rfl (by simp [go_sem, a.e 97 (j 11 rfl), a.e 101 (j 15 rfl), IntWalk.i64_in (((os k).hi) - (elT (gf) k)) (by omega)]) rfl,
  fun f s W d j l m q a => opv rfl rfl (by simp [go_sem, a.e 102 (j 16 rfl)]) rfl,
  fun f s W d j l m q a => opv rfl rfl (by simp [go_sem, a.e 94 (j 8 rfl), a.e 103 (j 17 rfl)]) rfl,
  fun f s W d j l m q a => opv rfl rfl (by simp [go_sem, a.e 17 k20_17]) rfl, trivial⟩ ?_
    intro f22 s22 W22 hB22 g22 hg22
    have fB22 := hB22.f fB21
    have z22 := hB22.below.size
    have b22_0 := hB22.b nb21
    have q107' := (q104'.below hB22.below)
    have q108' := (q105'.bw hB22)
    have q109' := (hB22.lt q106')
    have k22_11 := kt hg22 11 k20_11
    have k22_13 := kt hg22 13 k20_13
    have k22_79 := kt hg22 79 k20_79
    have k22_80 := kt hg22 80 k20_80
    have k22_81 := kt hg22 81 k20_81
    have k22_10 := kt hg22 10 k20_10
    have k22_17 := kt hg22 17 k20_17
    have k22_104 := kt hg22 104 (hB22.is 18)
    have k22_105 := kt hg22 105 (hB22.is 19)
    obtain ⟨W23, hW23⟩ : ∃ W', W' = W22.setRow (s20 3) #[.int .i64 ((os k).wd), .int .i64 (max 0 (((os k).lo) - (elT (gf) k))), .int .i64 (max 0 (((os k).hi) - (elT (gf) k)))] := ⟨_, rfl⟩
    refine tail_skip (o := _) rfl ⟨rfl, rfl⟩ (run_seg hW23 (fr_ev k22_105) (fr_ev k22_104) b22_0 rfl rfl rfl rfl) ?_
    obtain ⟨fB23, nb23, ot23, z23⟩ := seg_facts hW23 fB22 b22_0 (by omega)
    clear hW23
    have q110' := q107'.other ot23 (fun g e => by have := limA g e; omega) z23
    have q111' := (q108'.other ot23 q109' (by omega) z23)
    have q112' := Nat.lt_of_lt_of_le q109' z23
    refine wpOps_end ?_
    refine hK29 _ _ ?_
    refine region_dk 3 [(106, 0), (107, 1), (108, 2), (109, 3), (10, 4)] [[], [], [1], [0, 1, 2], [0, 1, 2, 3]] (rel [is (.slice (aq) (k) (cq2)),
   is (.agg #[.int .i64 ((os k).wd), .int .i64 (max 0 (((os k).lo) - (elT (gf) k))), .int .i64 (max 0 (((os k).hi) - (elT (gf) k)))]),
   row 2 1 #[.int .i64 ((os k).wd), .int .i64 (max 0 (((os k).lo) - (elT (gf) k))), .int .i64 (max 0 (((os k).hi) - (elT (gf) k)))] 72])
     ⟨is_k, is_k, row_k, trivial⟩
     ⟨fun f s W d j l m q a => opv rfl rfl (by simp [go_sem, a.e 10 ((m 4 10 rfl rfl).trans k22_10)]) rfl,
  fun f s W d j l m q a => opv rfl rfl (by simp [go_sem, a.e 17 k22_17, cb nb23 d 0, cb nb23 d 1, cb nb23 d 2]) rfl,
  fun f s W d j l m q a => opr rfl rfl (by simp [go_sem, a.e 107 (j 1 rfl)]), trivial⟩ ?_
    intro f24 s24 W24 hB24 g24 hg24
    have fB24 := hB24.f fB23
    have z24 := hB24.below.size
    have b24_0 := hB24.b nb23
    have q113' := (q110'.below hB24.below)
    have q114' := (q111'.bw hB24)
    have q115' := (hB24.lt q112')
    obtain ⟨r24_2, br24_2⟩ := hB24.is 2
    have lr24_2 := hB24.lr 2 br24_2
    have k24_11 := kt hg24 11 k22_11
    have k24_13 := kt hg24 13 k22_13
    have k24_79 := kt hg24 79 k22_79
    have k24_80 := kt hg24 80 k22_80
    have k24_81 := kt hg24 81 k22_81
    have k24_106 := kt hg24 106 (hB24.is 0)
    have k24_108 := kt hg24 108 r24_2
    have lm25 := q113'.lim
    obtain ⟨ga25, ca25, W25, ra25, ow25, ot25, z25, gg25, fB25⟩ := growN_tail 36 36 72 3 24 _ (by kernel_rfl) infoO rfl (orC (osL os gf) (k + 1)) (k + 1) (off := 0) (k := 1) (c' := 1) [.int .i64 ((os k).wd), .int .i64 (max 0 (((os k).lo) - (elT (gf) k))), .int .i64 (max 0 (((os k).hi) - (elT (gf) k)))] fB24 q113' rfl rfl rfl rfl (cells_at br24_2) (by omega)
    refine tail_value2 (o := _) rfl rfl rfl (run_appendOp (fr_ev k24_106) (fr_ev k24_108) ra25) ?_
    have og25 : Ii W25 (some ⟨gz, 0, none⟩) 3 cz gf := Ii.otA q114' ot25 (fun g e h => by have := hap g e; omega) z25
    have ol25 : gz < W25.heap.size := Nat.lt_of_lt_of_le q115' z25
    have hap25 : ∀ g, (some ⟨ga25, 0, none⟩ : Option Addr) = some ⟨g, 0, none⟩ → g ≠ gz := fun g e => by cases e; rcases gg25 with gg | gg; exact hap _ gg; omega
    have on25 : OwnN 72 3 w.heap.size (k + 1) (orC (osL os gf) (k + 1)) (some ⟨ga25, 0, none⟩) ca25 W25 := .inr ⟨_, rfl, ow25⟩
    generalize hg25 : upd g24 109 (.slice (some ⟨ga25, 0, none⟩) ((k + 1)) (ca25)) = g25
    have k25_11 := ku hg25 11 k24_11
    have k25_13 := ku hg25 13 k24_13
    have k25_79 := ku hg25 79 k24_79
    have k25_80 := ku hg25 80 k24_80
    have k25_81 := ku hg25 81 k24_81
    have k25_109 := kt hg25 109 (upd_same _ _ _)
    refine tail_value (o := _) rfl rfl rfl (v := .slice (some ⟨ga25, 0, none⟩) ((k + 1)) (ca25)) (by simp [go_sem, frv 112 k25_109]) ?_
    generalize hg26 : upd g25 10 (.slice (some ⟨ga25, 0, none⟩) ((k + 1)) (ca25)) = g26
    have k26_11 := ku hg26 11 k25_11
    have k26_13 := ku hg26 13 k25_13
    have k26_79 := ku hg26 79 k25_79
    have k26_80 := ku hg26 80 k25_80
    have k26_81 := ku hg26 81 k25_81
    have k26_10 := kt hg26 10 (upd_same _ _ _)
    refine wpOps_end ?_
    refine inBlock_normal ?_
    refine hK27 _ _ ?_
    refine region_dk 2 [(110, 0), (81, 1)] [[], [0]] (rel [is (.int .i64 ((k : Int) + 1)),
   is (.int .i64 ((k : Int) + 1))])
     ⟨is_k, is_k, trivial⟩
     ⟨fun f s W d j l m q a => opv rfl rfl (by simp [go_sem, a.e 81 ((m 1 81 rfl rfl).trans k26_81), IntWalk.i64_in ((k : Int) + 1) (by omega)]) rfl,
  fun f s W d j l m q a => opv rfl rfl (by simp [go_sem, a.e 110 (j 0 rfl)]) rfl, trivial⟩ ?_
    intro f27 s27 W27 hB27 g27 hg27
    have fB27 := hB27.f fB25
    have z27 := hB27.below.size
    have q116' := (on25.below hB27.below)
    have q117' := (og25.bw hB27)
    have q118' := (hB27.lt ol25)
    refine wpOps_end ?_
    have k27_11 := kt hg27 11 k26_11
    have k27_13 := kt hg27 13 k26_13
    have k27_79 := kt hg27 79 k26_79
    have k27_80 := kt hg27 80 k26_80
    have k27_10 := kt hg27 10 k26_10
    have k27_81 := kt hg27 81 (hB27.is 1)
    refine then_normal ?_
    exact ⟨_, by omega, g27, rfl, k + 1, some ⟨ga25, 0, none⟩, ca25, rfl, k27_11, k27_13, k27_79, k27_80, k27_81.trans (by go_num), k27_10.trans (by go_num), fB27, (by omega), q116', q117', q118', (by omega), hap25⟩
   ·
    have hc26' := hc26; try simp only [ba] at hc26'
    have hk3 : k = 3 := by omega
    refine wp_exit ?_
    refine then_exit ?_
    refine then_exit ?_
    refine inBlock_at ?_
    refine hK22 _ _ ?_
    refine wp_seq_k fun K30 hK30 => ?_
    refine region_dk 3 [(111, 0), (10, 1), (11, 2)] [[], [0], [0, 1]] (rel [is (.slice (aq) (k) (cq2)),
   is (.slice (aq) (k) (cq2)),
   is (.int .i64 0)])
     ⟨is_k, is_k, is_k, trivial⟩
     ⟨fun f s W d j l m q a => opv rfl rfl (by simp [go_sem, a.e 10 ((m 1 10 rfl rfl).trans k19_10)]) rfl,
  fun f s W d j l m q a => opv rfl rfl (by simp [go_sem, a.e 111 (j 0 rfl)]) rfl,
  fun f s W d j l m q a => opv rfl rfl (by simp [go_sem]) rfl, trivial⟩ ?_
    intro f28 s28 W28 hB28 g28 hg28
    have fB28 := hB28.f fB19
    have z28 := hB28.below.size
    have q119' := (q98'.below hB28.below)
    have q120' := (q99'.bw hB28)
    have q121' := (hB28.lt q100')
    refine hK30 _ _ ?_
    have k28_10 := kt hg28 10 (hB28.is 1)
    have k28_11 := kt hg28 11 (hB28.is 2)
    refine wp_ret ?_
    refine leave_gen (v := .tuple #[.slice (aq) (k) (cq2), .int .i64 0]) (.inr rfl) (by simp [results, Try.results24, go_sem, frv 112 k28_10, frv 112 k28_11]) ?_
    exact ⟨_, rfl, OwnN.ordL hk3 (q119'), fB28⟩
end Go.Proofs.Ytnhipdbdolabkaa
