/- Part of the proof: what the claim leans on. -/
import Derived.Test.YthnediamopehfaaGreatZINL4
set_option linter.unusedSimpArgs false
set_option linter.unusedVariables false
namespace Go.Proofs.YthnediamopehfaaGreat
open Go.RowKit
set_option maxRecDepth 100000 in
set_option maxHeartbeats 8000000 in
theorem widened_c1 (slo shi : Int) (a1 a2 a3 : Option Addr) (c1 c2 c3 : Nat) (tab p0 p1 p2 p3 hh t0 t1 u0 u1 sl : Int) (op : Bool) (w : World) (h1 : Ii w a1 4 c1 [p0, p1, p2, p3]) (h2 : Ii w a2 2 c2 [t0, t1]) (h3 : Ii w a3 2 c3 [u0, u1]) (cal off : Int) (m : Nat) (hck : checkErr ⟨tab, [p0, p1, p2, p3], hh, [t0, t1], [u0, u1], sl, op⟩ = 0) (gcl : 1 ≤ cal ∧ cal ≤ 10000) (gof : 0 ≤ off ∧ off ≤ 5) (hm5 : 5 ≤ m) (hm9 : m < 9) (hkm : kindR m = 1) (hkd : ((m : Int) + 1).tmod 2 = 1) (hop : op = true → t0 = 0 ∧ t1 = 0) :
  Calls Tryz.prog 20 #[.agg #[.int .i64 slo, .int .i64 shi], .agg #[.int .i64 tab, .slice (a1) (4) (c1), .int .i64 hh, .slice (a2) (2) (c2), .slice (a3) (2) (c3), .int .i64 sl, .bool op], .int .i64 ((m : Int)), .int .i64 cal, .int .i64 off] w (fun e w' => e = .returned (.agg #[.int .i64 (widR ⟨tab, [p0, p1, p2, p3], hh, [t0, t1], [u0, u1], sl, op⟩ m cal off (slo, shi)).1, .int .i64 (widR ⟨tab, [p0, p1, p2, p3], hh, [t0, t1], [u0, u1], sl, op⟩ m cal off (slo, shi)).2]) ∧ Below w.heap.size w w') := by
 have hgn := good_nums hck
 simp only [List.getD_cons_zero, List.getD_cons_succ] at hgn
 obtain ⟨-, gt, gs, gh, ⟨gp0, gp1, gp2, gp3⟩, gt0, gt1, gu0, gu1⟩ := hgn
 obtain ⟨q1, o1, hq1, hql1, hqc1⟩ := h1.at (by simp)
 obtain ⟨q2, o2, hq2, hql2, hqc2⟩ := h2.at (by simp)
 obtain ⟨q3, o3, hq3, hql3, hqc3⟩ := h3.at (by simp)
 have hm1 : decide ((m : Int) < 4) = false := decide_eq_false (by omega)
 have hm2 : ((m : Int) == 4) = false := beq_eq_false_iff_ne.2 (by omega)
 obtain ⟨L, U, F, G, O, I, ⟨gL1, gL2, gL3⟩, ⟨gF1, gF2, gF3⟩, hLG, hFb, hFt, hFn, hO0, hI0, hIs, hOI, hOe⟩ := wid_C hck hm5 hm9 gof.1 cal (slo, shi)
 rw [hkm] at hLG hFb hFt
 change aroundL p0 off 1 = _ at hLG
 change _ → aroundL u1 off 0 = _ at hFb
 change _ → op = false → aroundL t1 off 0 = _ at hFt
 change _ → op = true → _ at hFn
 refine calls_fr Tryz.func20 Tryz.ntmps20 rfl rfl fun g hg => ?_
 have k0 : g 0 = .agg #[.int .i64 slo, .int .i64 shi] := hg 0
 have k1 : g 1 = .agg #[.int .i64 tab, .slice (a1) (4) (c1), .int .i64 hh, .slice (a2) (2) (c2), .slice (a3) (2) (c3), .int .i64 sl, .bool op] := hg 1
 have k2 : g 2 = .int .i64 ((m : Int)) := hg 2
 have k3 : g 3 = .int .i64 cal := hg 3
 have k4 : g 4 = .int .i64 off := hg 4
 clear hg
 have fB0 : Below w.heap.size w w := Below.refl _ _
 refine wp_seq_k fun K1 hK1 => ?_
 refine region_dk 3 [(5, 0), (6, 1), (10, 2)] [[], [], []] (rel [bx 0 #[.int .i64 slo, .int .i64 shi] 26,
   bx 1 #[.int .i64 tab, .slice (a1) (4) (c1), .int .i64 hh, .slice (a2) (2) (c2), .slice (a3) (2) (c3), .int .i64 sl, .bool op] 24,
   bx 2 #[.int .i64 0, .int .i64 0] 26])
  ⟨bx_k, bx_k, bx_k, trivial⟩
  ⟨fun f s W d l r u y a => opb rfl rfl (by simp [go_sem, a.e 0 k0]),
  fun f s W d l r u y a => opb rfl rfl (by simp [go_sem, a.e 1 k1]),
  fun f s W d l r u y a => opb rfl rfl (by simp [go_sem]), trivial⟩ ?_
 intro f1 s1 W1 hB1 g1 hg1
 have fB1 := hB1.f fB0
 have z1 := hB1.below.size
 obtain ⟨r1_0, br1_0⟩ := hB1.is 0
 have lr1_0 := hB1.lr 0 br1_0
 obtain ⟨r1_1, br1_1⟩ := hB1.is 1
 have lr1_1 := hB1.lr 1 br1_1
 obtain ⟨r1_2, br1_2⟩ := hB1.is 2
 have lr1_2 := hB1.lr 2 br1_2
 have ne1_0_1 := hB1.nb 0 1
 have ne1_0_2 := hB1.nb 0 2
 have ne1_1_2 := hB1.nb 1 2
 refine hK1 _ _ ?_
 have k1_2 := kt hg1 2 k2
 have k1_3 := kt hg1 3 k3
 have k1_4 := kt hg1 4 k4
 have k1_5 := kt hg1 5 r1_0
 have k1_6 := kt hg1 6 r1_1
 have k1_10 := kt hg1 10 r1_2
 refine wp_seq_k fun K2 hK2 => ?_
 refine region_dk 3 [(18, 0), (19, 1), (11, 2)] [[], [0], [], [0, 1, 2]] (rel [is (.agg #[.int .i64 tab, .slice (a1) (4) (c1), .int .i64 hh, .slice (a2) (2) (c2), .slice (a3) (2) (c3), .int .i64 sl, .bool op]),
   fun v s W => OwBlk (s 1) (⟨tab, [p0, p1, p2, p3], hh, [t0, t1], [u0, u1], sl, op⟩) v W,
   bx 2 #[.int .i64 0, .slice (none) (0) (0), .int .i64 0, .slice (none) (0) (0), .slice (none) (0) (0), .int .i64 0, .bool false] 24])
  ⟨is_k, ⟨fun v k W W' hb h => h.below hb, fun v s s' W e h => by have h' : OwBlk (s 1) (⟨tab, [p0, p1, p2, p3], hh, [t0, t1], [u0, u1], sl, op⟩) v W := h; show OwBlk (s' 1) (⟨tab, [p0, p1, p2, p3], hh, [t0, t1], [u0, u1], sl, op⟩) v W; rw [← e 1 (by simp)]; exact h'⟩, bx_k, trivial⟩
  ⟨fun f s W d l r u y a => opv rfl rfl (by simp [go_sem, a.e 6 k1_6, cb br1_1 d 0, cb br1_1 d 1, cb br1_1 d 2, cb br1_1 d 3, cb br1_1 d 4, cb br1_1 d 5, cb br1_1 d 6]) rfl,
  fun f s W d l r u y a => by have z := below_trans fB1 d; exact opDo_call rfl rfl (by simp [go_sem, a.e 18 (l 0 rfl)]) (own_own a1 a2 a3 c1 c2 c3 tab p0 p1 p2 p3 hh t0 t1 u0 u1 sl op W (h1.below z (Nat.le_refl _)) (h2.below z (Nat.le_refl _)) (h3.below z (Nat.le_refl _))) (fun e W' h => by obtain ⟨v, e1, h1, h2⟩ := h; exact ⟨v, e1, h2, (show OwBlk (upd s 1 W.heap.size 1) (⟨tab, [p0, p1, p2, p3], hh, [t0, t1], [u0, u1], sl, op⟩) v W' from by rw [upd_at]; exact h1)⟩),
  fun f s W d l r u y a => opb rfl rfl (by simp [go_sem]), trivial⟩ ?_
 intro f2 s2 W2 hB2 g2 hg2
 have fB2 := hB2.f fB1
 have z2 := hB2.below.size
 have b2_0 := hB2.b br1_0
 have b2_1 := hB2.b br1_1
 have b2_2 := hB2.b br1_2
 obtain ⟨g401', c404', g402', c405', g403', c406', r2_1, q407', q408', q409', q410', q411', q412'⟩ := hB2.is 1
 have la2_1 := hB2.from' 1 (by decide)
 have lo2_1_o0 := q407'.lim
 have q413' := q407'.low (B' := w.heap.size) (Nat.le_trans fB1.size (la2_1))
 have lo2_1_o1 := q408'.lim
 have q414' := q408'.low (B' := w.heap.size) (Nat.le_trans fB1.size (la2_1))
 have lo2_1_o2 := q409'.lim
 have q415' := q409'.low (B' := w.heap.size) (Nat.le_trans fB1.size (la2_1))
 obtain ⟨r2_2, br2_2⟩ := hB2.is 2
 have lr2_2 := hB2.lr 2 br2_2
 have oo2_1_o0_2 := hB2.off 1 2 (by decide) (by decide) (by decide) lo2_1_o0.1 (fun W h => (OwBlk.lt h r2_1).1) (fun _ _ _ h => lt_of_blk h.2)
 have oo2_1_o1_2 := hB2.off 1 2 (by decide) (by decide) (by decide) lo2_1_o1.1 (fun W h => (OwBlk.lt h r2_1).2.1) (fun _ _ _ h => lt_of_blk h.2)
 have oo2_1_o2_2 := hB2.off 1 2 (by decide) (by decide) (by decide) lo2_1_o2.1 (fun W h => (OwBlk.lt h r2_1).2.2) (fun _ _ _ h => lt_of_blk h.2)
 have k2_2 := kt hg2 2 k1_2
 have k2_3 := kt hg2 3 k1_3
 have k2_4 := kt hg2 4 k1_4
 have k2_5 := kt hg2 5 k1_5
 have k2_6 := kt hg2 6 k1_6
 have k2_10 := kt hg2 10 k1_10
 have k2_19 := kt hg2 19 r2_1
 have k2_11 := kt hg2 11 r2_2
 obtain ⟨W3, hW3⟩ : ∃ W', W' = W2.setRow (s2 2) #[.int .i64 tab, .slice (some ⟨g401', 0, none⟩) (4) (c404'), .int .i64 hh, .slice (some ⟨g402', 0, none⟩) (2) (c405'), .slice (some ⟨g403', 0, none⟩) (2) (c406'), .int .i64 sl, .bool op] := ⟨_, rfl⟩
 refine tail_skip (o := _) rfl ⟨rfl, rfl⟩ (run_seg hW3 (fr_ev k2_11) (fr_ev k2_19) br2_2 rfl rfl rfl rfl) ?_
 obtain ⟨fB3, nb3, ot3, z3⟩ := seg_facts hW3 fB2 br2_2 (by omega)
 clear hW3
 have b3_0 := ot3 _ _ (by omega) b2_0
 have b3_1 := ot3 _ _ (by omega) b2_1
 have b3_2 := ot3 _ _ (by omega) b2_2
 have q416' := q413'.other ot3 (by omega) z3
 have q417' := q414'.other ot3 (by omega) z3
 have q418' := q415'.other ot3 (by omega) z3
 refine wpOps_end ?_
 refine hK2 _ _ ?_
 refine wp_seq_k fun K3 hK3 => ?_
 refine region_dk 4 [(20, 0), (21, 1), (12, 2), (13, 3)] [[], [], [0], [0, 1, 2]] (rel [row 0 0 #[] 3,
   row 1 1 #[.int .i64 0] 3,
   isS fun s => .slice (some ⟨(s 0), 0, none⟩) (0) (0),
   isS fun s => .slice (some ⟨(s 1), 0, none⟩) (1) (1)])
  ⟨row_k, row_k, isS_k fun s s' e => by rw [e 0 (by simp)], isS_k fun s s' e => by rw [e 1 (by simp)], trivial⟩
  ⟨fun f s W d l r u y a => opr rfl rfl (by simp [go_sem]),
  fun f s W d l r u y a => opr rfl rfl (by simp [go_sem]),
  fun f s W d l r u y a => opv rfl rfl (by simp [go_sem, a.e 20 (l 0 rfl).1, upd]) rfl,
  fun f s W d l r u y a => opv rfl rfl (by simp [go_sem, a.e 21 (l 1 rfl).1, upd]) rfl, trivial⟩ ?_
 intro f4 s4 W4 hB4 g4 hg4
 have fB4 := hB4.f fB3
 have z4 := hB4.below.size
 have b4_0 := hB4.b b3_0
 have b4_1 := hB4.b b3_1
 have b4_2 := hB4.b b3_2
 have b4_3 := hB4.b nb3
 have q419' := (q416'.below hB4.below)
 have q420' := (q417'.below hB4.below)
 have q421' := (q418'.below hB4.below)
 obtain ⟨r4_0, br4_0⟩ := hB4.is 0
 have lr4_0 := hB4.lr 0 br4_0
 obtain ⟨r4_1, br4_1⟩ := hB4.is 1
 have lr4_1 := hB4.lr 1 br4_1
 have ne4_0_1 := hB4.nb 0 1
 refine hK3 _ _ ?_
 have k4_2 := kt hg4 2 k2_2
 have k4_3 := kt hg4 3 k2_3
 have k4_4 := kt hg4 4 k2_4
 have k4_5 := kt hg4 5 k2_5
 have k4_6 := kt hg4 6 k2_6
 have k4_10 := kt hg4 10 k2_10
 have k4_11 := kt hg4 11 k2_11
 have k4_12 := kt hg4 12 (hB4.is 2)
 have k4_13 := kt hg4 13 (hB4.is 3)
 refine wp_seq_k fun K4 hK4 => ?_
 refine region_dk 4 [(22, 0), (23, 1), (24, 2), (14, 3)] [[], [0], [0, 1], [0, 1, 2]] (rel [is (.int .i64 ((m : Int))),
   is (.int .i64 ((m : Int) + 1)),
   is (.int .i64 1),
   is (.int .i64 1)])
  ⟨is_k, is_k, is_k, is_k, trivial⟩
  ⟨fun f s W d l r u y a => opv rfl rfl (by simp [go_sem, a.e 2 k4_2]) rfl,
  fun f s W d l r u y a => opv rfl rfl (by simp [go_sem, a.e 22 (l 0 rfl), IntWalk.i64_in ((m : Int) + 1) (by omega)]) rfl,
  fun f s W d l r u y a => opv rfl rfl (by simp [go_sem, a.e 23 (l 1 rfl), hkd]) rfl,
  fun f s W d l r u y a => opv rfl rfl (by simp [go_sem, a.e 24 (l 2 rfl)]) rfl, trivial⟩ ?_
 intro f5 s5 W5 hB5 g5 hg5
 have fB5 := hB5.f fB4
 have z5 := hB5.below.size
 have b5_0 := hB5.b b4_0
 have b5_1 := hB5.b b4_1
 have b5_2 := hB5.b b4_2
 have b5_3 := hB5.b b4_3
 have b5_4 := hB5.b br4_0
 have b5_5 := hB5.b br4_1
 have q422' := (q419'.below hB5.below)
 have q423' := (q420'.below hB5.below)
 have q424' := (q421'.below hB5.below)
 refine hK4 _ _ ?_
 have k5_2 := kt hg5 2 k4_2
 have k5_3 := kt hg5 3 k4_3
 have k5_4 := kt hg5 4 k4_4
 have k5_5 := kt hg5 5 k4_5
 have k5_6 := kt hg5 6 k4_6
 have k5_10 := kt hg5 10 k4_10
 have k5_11 := kt hg5 11 k4_11
 have k5_12 := kt hg5 12 k4_12
 have k5_13 := kt hg5 13 k4_13
 have k5_14 := kt hg5 14 (hB5.is 3)
 refine wp_seq_k fun K5 hK5 => ?_
 suffices J425' : ∀ (g_ : Nat → Value) (W_ : World), (∃ (al : Option Addr) (cl : Nat) (af : Option Addr) (cf : Nat), g_ 2 = .int .i64 ((m : Int)) ∧ g_ 3 = .int .i64 cal ∧ g_ 4 = .int .i64 off ∧ g_ 5 = .pointer (some ⟨(s1 0), 0, none⟩) ∧ g_ 6 = .pointer (some ⟨(s1 1), 0, none⟩) ∧ g_ 10 = .pointer (some ⟨(s1 2), 0, none⟩) ∧ g_ 11 = .pointer (some ⟨(s2 2), 0, none⟩) ∧ g_ 14 = .int .i64 1 ∧ g_ 12 = .slice (al) ((rangeL L U).length) (cl) ∧ g_ 13 = .slice (af) ((rangeL F G).length) (cf) ∧ Below w.heap.size w W_ ∧ W5.heap.size ≤ W_.heap.size ∧ W_.heap[(s1 0)]? = some (.cells #[.int .i64 slo, .int .i64 shi] 26 (0, 0)) ∧ W_.heap[(s1 1)]? = some (.cells #[.int .i64 tab, .slice (a1) (4) (c1), .int .i64 hh, .slice (a2) (2) (c2), .slice (a3) (2) (c3), .int .i64 sl, .bool op] 24 (0, 0)) ∧ W_.heap[(s1 2)]? = some (.cells #[.int .i64 0, .int .i64 0] 26 (0, 0)) ∧ W_.heap[(s2 2)]? = some (.cells #[.int .i64 tab, .slice (some ⟨g401', 0, none⟩) (4) (c404'), .int .i64 hh, .slice (some ⟨g402', 0, none⟩) (2) (c405'), .slice (some ⟨g403', 0, none⟩) (2) (c406'), .int .i64 sl, .bool op] 24 (0, 0)) ∧ W_.heap[(s4 0)]? = some (.cells #[] 3 (0, 0)) ∧ W_.heap[(s4 1)]? = some (.cells #[.int .i64 0] 3 (0, 0)) ∧ OwnI w.heap.size ([p0, p1, p2, p3]) g401' c404' W_ ∧ OwnI w.heap.size ([t0, t1]) g402' c405' W_ ∧ OwnI w.heap.size ([u0, u1]) g403' c406' W_ ∧ Ii W_ al (rangeL L U).length cl (rangeL L U) ∧ Ii W_ af (rangeL F G).length cf (rangeL F G) ∧ (∀ g o, al = some ⟨g, o, none⟩ → W3.heap.size ≤ g) ∧ (∀ g o, af = some ⟨g, o, none⟩ → W3.heap.size ≤ g)) → K5 (fr 139 g_) W_ by
  refine wp_block ?_
  refine wp_seq_k fun K6 hK6 => ?_
  refine region_dk 3 [(53, 0), (54, 1), (52, 2)] [[], [0], [0, 1]] (rel [is (.int .i64 ((m : Int))),
   is (.bool (decide ((m : Int) < 4))),
   is (.bool (decide ((m : Int) < 4)))])
   ⟨is_k, is_k, is_k, trivial⟩
   ⟨fun f s W d l r u y a => opv rfl rfl (by simp [go_sem, a.e 2 k5_2]) rfl,
  fun f s W d l r u y a => opv rfl rfl (by simp [go_sem, a.e 53 (l 0 rfl)]) rfl,
  fun f s W d l r u y a => opv rfl rfl (by simp [go_sem, a.e 54 (l 1 rfl)]) rfl, trivial⟩ ?_
  intro f6 s6 W6 hB6 g6 hg6
  have fB6 := hB6.f fB5
  have z6 := hB6.below.size
  have b6_0 := hB6.b b5_0
  have b6_1 := hB6.b b5_1
  have b6_2 := hB6.b b5_2
  have b6_3 := hB6.b b5_3
  have b6_4 := hB6.b b5_4
  have b6_5 := hB6.b b5_5
  have q426' := (q422'.below hB6.below)
  have q427' := (q423'.below hB6.below)
  have q428' := (q424'.below hB6.below)
  refine hK6 _ _ ?_
  have k6_2 := kt hg6 2 k5_2
  have k6_3 := kt hg6 3 k5_3
  have k6_4 := kt hg6 4 k5_4
  have k6_5 := kt hg6 5 k5_5
  have k6_6 := kt hg6 6 k5_6
  have k6_10 := kt hg6 10 k5_10
  have k6_11 := kt hg6 11 k5_11
  have k6_12 := kt hg6 12 k5_12
  have k6_13 := kt hg6 13 k5_13
  have k6_14 := kt hg6 14 k5_14
  have k6_52 := kt hg6 52 (hB6.is 2)
  have hc7 : (fr 139 g6).eval (.tmp 52) = .bool false := ((fr_eval rfl).trans k6_52).trans (by rw [hm1])
  refine wp_cond_false (hc7) ?_
  refine wp_seq_k fun K8 hK8 => ?_
  refine region_dk 3 [(63, 0), (64, 1), (62, 2)] [[], [0], [0, 1]] (rel [is (.int .i64 ((m : Int))),
   is (.bool ((m : Int) == 4)),
   is (.bool ((m : Int) == 4))])
   ⟨is_k, is_k, is_k, trivial⟩
   ⟨fun f s W d l r u y a => opv rfl rfl (by simp [go_sem, a.e 2 k6_2]) rfl,
  fun f s W d l r u y a => opv rfl rfl (by simp [go_sem, a.e 63 (l 0 rfl)]) rfl,
  fun f s W d l r u y a => opv rfl rfl (by simp [go_sem, a.e 64 (l 1 rfl)]) rfl, trivial⟩ ?_
  intro f7 s7 W7 hB7 g7 hg7
  have fB7 := hB7.f fB6
  have z7 := hB7.below.size
  have b7_0 := hB7.b b6_0
  have b7_1 := hB7.b b6_1
  have b7_2 := hB7.b b6_2
  have b7_3 := hB7.b b6_3
  have b7_4 := hB7.b b6_4
  have b7_5 := hB7.b b6_5
  have q429' := (q426'.below hB7.below)
  have q430' := (q427'.below hB7.below)
  have q431' := (q428'.below hB7.below)
  refine hK8 _ _ ?_
  have k7_2 := kt hg7 2 k6_2
  have k7_3 := kt hg7 3 k6_3
  have k7_4 := kt hg7 4 k6_4
  have k7_5 := kt hg7 5 k6_5
  have k7_6 := kt hg7 6 k6_6
  have k7_10 := kt hg7 10 k6_10
  have k7_11 := kt hg7 11 k6_11
  have k7_12 := kt hg7 12 k6_12
  have k7_13 := kt hg7 13 k6_13
  have k7_14 := kt hg7 14 k6_14
  have k7_62 := kt hg7 62 (hB7.is 2)
  have hc9 : (fr 139 g7).eval (.tmp 62) = .bool false := ((fr_eval rfl).trans k7_62).trans (by rw [hm2])
  refine wp_cond_false (hc9) ?_
  refine wp_seq_k fun K10 hK10 => ?_
  refine region_dk 9 [(25, 0), (26, 1), (27, 2), (28, 3), (29, 4), (30, 5), (31, 6), (32, 7), (12, 8)] [[], [0], [], [2], [0, 1, 2, 3], [0, 1, 2, 3, 4], [], [0, 1, 2, 3, 4, 5, 6], [0, 1, 2, 3, 4, 5, 6, 7]] (rel [is (.pointer (some ⟨(s1 1), 1, none⟩)),
   is (.slice (a1) (4) (c1)),
   is (.int .i64 1),
   is (.int .i64 0),
   is (.pointer (some ⟨q1, o1, none⟩)),
   is (.int .i64 p0),
   is (.int .i64 off),
   fun v s W => NwA (s 7) (rangeL L U) v W,
   fun v s W => NwA (s 7) (rangeL L U) v W])
   ⟨is_k, is_k, is_k, is_k, is_k, is_k, is_k, ⟨fun v k W W' hb h => h.below hb, fun v s s' W e h => by have h' : NwA (s 7) (rangeL L U) v W := h; show NwA (s' 7) (rangeL L U) v W; rw [← e 7 (by simp)]; exact h'⟩, ⟨fun v k W W' hb h => h.below hb, fun v s s' W e h => by have h' : NwA (s 7) (rangeL L U) v W := h; show NwA (s' 7) (rangeL L U) v W; rw [← e 7 (by simp)]; exact h'⟩, trivial⟩
   ⟨fun f s W d l r u y a => opv rfl rfl (by simp [go_sem, a.e 6 k7_6]) rfl,
  fun f s W d l r u y a => opv rfl rfl (by simp [go_sem, a.e 25 (l 0 rfl), cb b7_1 d 1]) rfl,
  fun f s W d l r u y a => opv rfl rfl (by simp [go_sem, a.e 14 k7_14]) rfl,
  fun f s W d l r u y a => opv rfl rfl (by simp [go_sem, a.e 27 (l 2 rfl), IntWalk.i64_in (0) (by omega)]) rfl,
  fun f s W d l r u y a => opv rfl rfl (by simp [go_sem, a.e 26 (l 1 rfl), a.e 28 (l 3 rfl), hq1]) rfl,
  fun f s W d l r u y a => by have z := below_trans fB7 d; have u_ : W.cell? ⟨q1, o1, none⟩ = some (.int .i64 (p0)) := (z.cell (p := ⟨q1, o1, none⟩) hql1).trans (hqc1 0 (by simp)); exact opv rfl rfl (by simp [go_sem, a.e 29 (l 4 rfl), u_]) rfl,
  fun f s W d l r u y a => opv rfl rfl (by simp [go_sem, a.e 4 k7_4]) rfl,
  fun f s W d l r u y a => opDo_call rfl rfl (by simp [go_sem, a.e 30 (l 5 rfl), a.e 31 (l 6 rfl)]) (nwa_as hLG (aroundR_any (p0) off 1 W (by omega) (by omega) (by omega) (by omega) (by decide) (by decide))) (fun e W' h => by obtain ⟨v, e1, h1, h2⟩ := h; exact ⟨v, e1, h2, (show NwA (upd s 7 W.heap.size 7) (rangeL L U) v W' from by rw [upd_at]; exact h1)⟩),
  fun f s W d l r u y a => opv (v := (f 7)) rfl rfl (by simp [go_sem, (a.at' 32 rfl : y.tmps[32]?.getD undef = f 7)] <;> rfl) (l 7 rfl), trivial⟩ ?_
  intro f8 s8 W8 hB8 g8 hg8
  have fB8 := hB8.f fB7
  have z8 := hB8.below.size
  have b8_0 := hB8.b b7_0
  have b8_1 := hB8.b b7_1
  have b8_2 := hB8.b b7_2
  have b8_3 := hB8.b b7_3
  have b8_4 := hB8.b b7_4
  have b8_5 := hB8.b b7_5
  have q436' := (q429'.below hB8.below)
  have q437' := (q430'.below hB8.below)
  have q438' := (q431'.below hB8.below)
  have la8_8_7 := hB8.from' 7 (by decide)
  obtain ⟨a439', c440', r8_8, q441', q442'⟩ := hB8.is 8
  refine hK10 _ _ ?_
  have k8_2 := kt hg8 2 k7_2
  have k8_3 := kt hg8 3 k7_3
  have k8_4 := kt hg8 4 k7_4
  have k8_5 := kt hg8 5 k7_5
  have k8_6 := kt hg8 6 k7_6
  have k8_10 := kt hg8 10 k7_10
  have k8_11 := kt hg8 11 k7_11
  have k8_13 := kt hg8 13 k7_13
  have k8_14 := kt hg8 14 k7_14
  have k8_12 := kt hg8 12 r8_8
  refine wp_seq_k fun K11 hK11 => ?_
  refine region_dk 2 [(33, 0), (34, 1)] [[], [0]] (rel [is (.int .i64 ((m : Int))),
   is (.bool (decide (6 < (m : Int))))])
   ⟨is_k, is_k, trivial⟩
   ⟨fun f s W d l r u y a => opv rfl rfl (by simp [go_sem, a.e 2 k8_2]) rfl,
  fun f s W d l r u y a => opv rfl rfl (by simp [go_sem, a.e 33 (l 0 rfl)]) rfl, trivial⟩ ?_
  intro f9 s9 W9 hB9 g9 hg9
  have fB9 := hB9.f fB8
  have z9 := hB9.below.size
  have b9_0 := hB9.b b8_0
  have b9_1 := hB9.b b8_1
  have b9_2 := hB9.b b8_2
  have b9_3 := hB9.b b8_3
  have b9_4 := hB9.b b8_4
  have b9_5 := hB9.b b8_5
  have q443' := (q436'.below hB9.below)
  have q444' := (q437'.below hB9.below)
  have q445' := (q438'.below hB9.below)
  have q446' := (q441'.bw hB9)
  refine hK11 _ _ ?_
  have k9_2 := kt hg9 2 k8_2
  have k9_3 := kt hg9 3 k8_3
  have k9_4 := kt hg9 4 k8_4
  have k9_5 := kt hg9 5 k8_5
  have k9_6 := kt hg9 6 k8_6
  have k9_10 := kt hg9 10 k8_10
  have k9_11 := kt hg9 11 k8_11
  have k9_13 := kt hg9 13 k8_13
  have k9_14 := kt hg9 14 k8_14
  have k9_12 := kt hg9 12 k8_12
  have k9_34 := kt hg9 34 (hB9.is 1)
  refine wp_cond_split (t := decide (6 < (m : Int))) ((fr_eval rfl).trans k9_34) (fun hc12 => ?_) (fun hc12 => ?_)
  ·
   have hc12' := hc12; try simp only [ba] at hc12'
   refine region_dk 8 [(35, 0), (36, 1), (37, 2), (38, 3), (39, 4), (40, 5), (41, 6), (13, 7)] [[], [0], [], [0, 1, 2], [0, 1, 2, 3], [], [0, 1, 2, 3, 4, 5], [0, 1, 2, 3, 4, 5, 6]] (rel [is (.pointer (some ⟨(s1 1), 4, none⟩)),
   is (.slice (a3) (2) (c3)),
   is (.int .i64 1),
   is (.pointer (some ⟨q3, o3 + 1, none⟩)),
   is (.int .i64 u1),
   is (.int .i64 off),
   fun v s W => NwA (s 6) (rangeL F G) v W,
   fun v s W => NwA (s 6) (rangeL F G) v W])
    ⟨is_k, is_k, is_k, is_k, is_k, is_k, ⟨fun v k W W' hb h => h.below hb, fun v s s' W e h => by have h' : NwA (s 6) (rangeL F G) v W := h; show NwA (s' 6) (rangeL F G) v W; rw [← e 6 (by simp)]; exact h'⟩, ⟨fun v k W W' hb h => h.below hb, fun v s s' W e h => by have h' : NwA (s 6) (rangeL F G) v W := h; show NwA (s' 6) (rangeL F G) v W; rw [← e 6 (by simp)]; exact h'⟩, trivial⟩
    ⟨fun f s W d l r u y a => opv rfl rfl (by simp [go_sem, a.e 6 k9_6]) rfl,
  fun f s W d l r u y a => opv rfl rfl (by simp [go_sem, a.e 35 (l 0 rfl), cb b9_1 d 4]) rfl,
  fun f s W d l r u y a => opv rfl rfl (by simp [go_sem, a.e 14 k9_14]) rfl,
  fun f s W d l r u y a => opv rfl rfl (by simp [go_sem, a.e 36 (l 1 rfl), a.e 37 (l 2 rfl), hq3]) rfl,
  fun f s W d l r u y a => by have z := below_trans fB9 d; have u_ : W.cell? ⟨q3, o3 + 1, none⟩ = some (.int .i64 (u1)) := (z.cell (p := ⟨q3, o3 + 1, none⟩) hql3).trans (hqc3 1 (by simp)); exact opv rfl rfl (by simp [go_sem, a.e 38 (l 3 rfl), u_]) rfl,
  fun f s W d l r u y a => opv rfl rfl (by simp [go_sem, a.e 4 k9_4]) rfl,
  fun f s W d l r u y a => opDo_call rfl rfl (by simp [go_sem, a.e 39 (l 4 rfl), a.e 40 (l 5 rfl)]) (nwa_as (hFb (by omega)) (aroundR_any (u1) off 0 W (by omega) (by omega) (by omega) (by omega) (by decide) (by decide))) (fun e W' h => by obtain ⟨v, e1, h1, h2⟩ := h; exact ⟨v, e1, h2, (show NwA (upd s 6 W.heap.size 6) (rangeL F G) v W' from by rw [upd_at]; exact h1)⟩),
  fun f s W d l r u y a => opv (v := (f 6)) rfl rfl (by simp [go_sem, (a.at' 41 rfl : y.tmps[41]?.getD undef = f 6)] <;> rfl) (l 6 rfl), trivial⟩ ?_
   intro f10 s10 W10 hB10 g10 hg10
   have fB10 := hB10.f fB9
   have z10 := hB10.below.size
   have b10_0 := hB10.b b9_0
   have b10_1 := hB10.b b9_1
   have b10_2 := hB10.b b9_2
   have b10_3 := hB10.b b9_3
   have b10_4 := hB10.b b9_4
   have b10_5 := hB10.b b9_5
   have q451' := (q443'.below hB10.below)
   have q452' := (q444'.below hB10.below)
   have q453' := (q445'.below hB10.below)
   have q454' := (q446'.bw hB10)
   have la10_7_6 := hB10.from' 6 (by decide)
   obtain ⟨a455', c456', r10_7, q457', q458'⟩ := hB10.is 7
   refine wpOps_end ?_
   have k10_2 := kt hg10 2 k9_2
   have k10_3 := kt hg10 3 k9_3
   have k10_4 := kt hg10 4 k9_4
   have k10_5 := kt hg10 5 k9_5
   have k10_6 := kt hg10 6 k9_6
   have k10_10 := kt hg10 10 k9_10
   have k10_11 := kt hg10 11 k9_11
   have k10_14 := kt hg10 14 k9_14
   have k10_12 := kt hg10 12 k9_12
   have k10_13 := kt hg10 13 r10_7
   refine inBlock_normal ?_
   exact J425' _ _ ⟨a439', c440', a455', c456', k10_2, k10_3, k10_4, k10_5, k10_6, k10_10, k10_11, k10_14, k10_12, k10_13, fB10, (by omega), b10_0, b10_1, b10_2, b10_3, b10_4, b10_5, q451', q452', q453', q454', q457', (fun g o e => by have := q442' g o e; omega), (fun g o e => by have := q458' g o e; omega)⟩
  ·
   have hc12' := hc12; try simp only [ba] at hc12'
   refine wp_seq_k fun K13 hK13 => ?_
   refine region_dk 3 [(42, 0), (43, 1), (44, 2)] [[], [0], [0, 1]] (rel [is (.pointer (some ⟨(s1 1), 6, none⟩)),
   is (.bool op),
   is (.bool (!op))])
    ⟨is_k, is_k, is_k, trivial⟩
    ⟨fun f s W d l r u y a => opv rfl rfl (by simp [go_sem, a.e 6 k9_6]) rfl,
  fun f s W d l r u y a => opv rfl rfl (by simp [go_sem, a.e 42 (l 0 rfl), cb b9_1 d 6]) rfl,
  fun f s W d l r u y a => opv rfl rfl (by simp [go_sem, a.e 43 (l 1 rfl)]) rfl, trivial⟩ ?_
   intro f11 s11 W11 hB11 g11 hg11
   have fB11 := hB11.f fB9
   have z11 := hB11.below.size
   have b11_0 := hB11.b b9_0
   have b11_1 := hB11.b b9_1
   have b11_2 := hB11.b b9_2
   have b11_3 := hB11.b b9_3
   have b11_4 := hB11.b b9_4
   have b11_5 := hB11.b b9_5
   have q459' := (q443'.below hB11.below)
   have q460' := (q444'.below hB11.below)
   have q461' := (q445'.below hB11.below)
   have q462' := (q446'.bw hB11)
   refine hK13 _ _ ?_
   have k11_2 := kt hg11 2 k9_2
   have k11_3 := kt hg11 3 k9_3
   have k11_4 := kt hg11 4 k9_4
   have k11_5 := kt hg11 5 k9_5
   have k11_6 := kt hg11 6 k9_6
   have k11_10 := kt hg11 10 k9_10
   have k11_11 := kt hg11 11 k9_11
   have k11_13 := kt hg11 13 k9_13
   have k11_14 := kt hg11 14 k9_14
   have k11_12 := kt hg11 12 k9_12
   have k11_44 := kt hg11 44 (hB11.is 2)
   refine wp_cond_split (t := !op) ((fr_eval rfl).trans k11_44) (fun hc14 => ?_) (fun hc14 => ?_)
   ·
    have hc14' := hc14; try simp only [ba] at hc14'
    refine region_dk 8 [(45, 0), (46, 1), (47, 2), (48, 3), (49, 4), (50, 5), (51, 6), (13, 7)] [[], [0], [], [0, 1, 2], [0, 1, 2, 3], [], [0, 1, 2, 3, 4, 5], [0, 1, 2, 3, 4, 5, 6]] (rel [is (.pointer (some ⟨(s1 1), 3, none⟩)),
   is (.slice (a2) (2) (c2)),
   is (.int .i64 1),
   is (.pointer (some ⟨q2, o2 + 1, none⟩)),
   is (.int .i64 t1),
   is (.int .i64 off),
   fun v s W => NwA (s 6) (rangeL F G) v W,
   fun v s W => NwA (s 6) (rangeL F G) v W])
     ⟨is_k, is_k, is_k, is_k, is_k, is_k, ⟨fun v k W W' hb h => h.below hb, fun v s s' W e h => by have h' : NwA (s 6) (rangeL F G) v W := h; show NwA (s' 6) (rangeL F G) v W; rw [← e 6 (by simp)]; exact h'⟩, ⟨fun v k W W' hb h => h.below hb, fun v s s' W e h => by have h' : NwA (s 6) (rangeL F G) v W := h; show NwA (s' 6) (rangeL F G) v W; rw [← e 6 (by simp)]; exact h'⟩, trivial⟩
     ⟨fun f s W d l r u y a => opv rfl rfl (by simp [go_sem, a.e 6 k11_6]) rfl,
  fun f s W d l r u y a => opv rfl rfl (by simp [go_sem, a.e 45 (l 0 rfl), cb b11_1 d 3]) rfl,
  fun f s W d l r u y a => opv rfl rfl (by simp [go_sem, a.e 14 k11_14]) rfl,
  fun f s W d l r u y a => opv rfl rfl (by simp [go_sem, a.e 46 (l 1 rfl), a.e 47 (l 2 rfl), hq2]) rfl,
  fun f s W d l r u y a => by have z := below_trans fB11 d; have u_ : W.cell? ⟨q2, o2 + 1, none⟩ = some (.int .i64 (t1)) := (z.cell (p := ⟨q2, o2 + 1, none⟩) hql2).trans (hqc2 1 (by simp)); exact opv rfl rfl (by simp [go_sem, a.e 48 (l 3 rfl), u_]) rfl,
  fun f s W d l r u y a => opv rfl rfl (by simp [go_sem, a.e 4 k11_4]) rfl,
  fun f s W d l r u y a => opDo_call rfl rfl (by simp [go_sem, a.e 49 (l 4 rfl), a.e 50 (l 5 rfl)]) (nwa_as (hFt (by omega) (by simpa using hc14)) (aroundR_any (t1) off 0 W (by omega) (by omega) (by omega) (by omega) (by decide) (by decide))) (fun e W' h => by obtain ⟨v, e1, h1, h2⟩ := h; exact ⟨v, e1, h2, (show NwA (upd s 6 W.heap.size 6) (rangeL F G) v W' from by rw [upd_at]; exact h1)⟩),
  fun f s W d l r u y a => opv (v := (f 6)) rfl rfl (by simp [go_sem, (a.at' 51 rfl : y.tmps[51]?.getD undef = f 6)] <;> rfl) (l 6 rfl), trivial⟩ ?_
    intro f12 s12 W12 hB12 g12 hg12
    have fB12 := hB12.f fB11
    have z12 := hB12.below.size
    have b12_0 := hB12.b b11_0
    have b12_1 := hB12.b b11_1
    have b12_2 := hB12.b b11_2
    have b12_3 := hB12.b b11_3
    have b12_4 := hB12.b b11_4
    have b12_5 := hB12.b b11_5
    have q467' := (q459'.below hB12.below)
    have q468' := (q460'.below hB12.below)
    have q469' := (q461'.below hB12.below)
    have q470' := (q462'.bw hB12)
    have la12_7_6 := hB12.from' 6 (by decide)
    obtain ⟨a471', c472', r12_7, q473', q474'⟩ := hB12.is 7
    refine wpOps_end ?_
    have k12_2 := kt hg12 2 k11_2
    have k12_3 := kt hg12 3 k11_3
    have k12_4 := kt hg12 4 k11_4
    have k12_5 := kt hg12 5 k11_5
    have k12_6 := kt hg12 6 k11_6
    have k12_10 := kt hg12 10 k11_10
    have k12_11 := kt hg12 11 k11_11
    have k12_14 := kt hg12 14 k11_14
    have k12_12 := kt hg12 12 k11_12
    have k12_13 := kt hg12 13 r12_7
    refine inBlock_normal ?_
    exact J425' _ _ ⟨a439', c440', a471', c472', k12_2, k12_3, k12_4, k12_5, k12_6, k12_10, k12_11, k12_14, k12_12, k12_13, fB12, (by omega), b12_0, b12_1, b12_2, b12_3, b12_4, b12_5, q467', q468', q469', q470', q473', (fun g o e => by have := q442' g o e; omega), (fun g o e => by have := q474' g o e; omega)⟩
   ·
    have hc14' := hc14; try simp only [ba] at hc14'
    have hFo := hFn (by omega) (by simpa using hc14)
    refine wp_skip ?_
    refine inBlock_normal ?_
    exact J425' _ _ ⟨a439', c440', _, 1, k11_2, k11_3, k11_4, k11_5, k11_6, k11_10, k11_11, k11_14, k11_12, k11_13.trans (by rw [← hFo]; rfl), fB11, (by omega), b11_0, b11_1, b11_2, b11_3, b11_4, b11_5, q459', q460', q461', q462', (by rw [← hFo]; exact ii_block (xs := [0]) b11_5 rfl rfl), (fun g o e => by have := q442' g o e; omega), (fun g o e => by cases e; omega)⟩
 rintro g_475 W_475 ⟨al, cl, af, cf, k_475_2, k_475_3, k_475_4, k_475_5, k_475_6, k_475_10, k_475_11, k_475_14, k_475_12, k_475_13, fB_475, z_475, b_475_0, b_475_1, b_475_2, b_475_3, b_475_4, b_475_5, q476', q477', q478', q479', q480', jp_0, jp_1⟩
 refine hK5 _ _ ?_
 refine wp_seq_k fun K15 hK15 => ?_
 refine wp_seq_k fun K16 hK16 => ?_
 refine region_dk 1 [(15, 0)] [[]] (rel [is (.int .i64 0)])
  ⟨is_k, trivial⟩
  ⟨fun f s W d l r u y a => opv rfl rfl (by simp [go_sem]) rfl, trivial⟩ ?_
 intro f13 s13 W13 hB13 g13 hg13
 have fB13 := hB13.f fB_475
 have z13 := hB13.below.size
 have b13_0 := hB13.b b_475_0
 have b13_1 := hB13.b b_475_1
 have b13_2 := hB13.b b_475_2
 have b13_3 := hB13.b b_475_3
 have b13_4 := hB13.b b_475_4
 have b13_5 := hB13.b b_475_5
 have q481' := (q476'.below hB13.below)
 have q482' := (q477'.below hB13.below)
 have q483' := (q478'.below hB13.below)
 have q484' := (q479'.bw hB13)
 have q485' := (q480'.bw hB13)
 refine hK16 _ _ ?_
 have k13_2 := kt hg13 2 k_475_2
 have k13_3 := kt hg13 3 k_475_3
 have k13_5 := kt hg13 5 k_475_5
 have k13_10 := kt hg13 10 k_475_10
 have k13_11 := kt hg13 11 k_475_11
 have k13_14 := kt hg13 14 k_475_14
 have k13_12 := kt hg13 12 k_475_12
 have k13_13 := kt hg13 13 k_475_13
 have k13_15 := kt hg13 15 (hB13.is 0)
 refine wp_block ?_
 refine wp_loop_n (fun m_ a_ W_ => ∃ g_ : Nat → Value, a_ = fr 139 g_ ∧ (∃ i : Nat, ∃ q : Int, ∃ v : Int, m_ = (rangeL L U).length - i ∧ g_ 2 = .int .i64 ((m : Int)) ∧ g_ 3 = .int .i64 cal ∧ g_ 5 = .pointer (some ⟨(s1 0), 0, none⟩) ∧ g_ 10 = .pointer (some ⟨(s1 2), 0, none⟩) ∧ g_ 11 = .pointer (some ⟨(s2 2), 0, none⟩) ∧ g_ 14 = .int .i64 1 ∧ g_ 12 = .slice (al) ((rangeL L U).length) (cl) ∧ g_ 13 = .slice (af) ((rangeL F G).length) (cf) ∧ g_ 15 = .int .i64 ((i : Int)) ∧ Below w.heap.size w W_ ∧ W13.heap.size ≤ W_.heap.size ∧ W_.heap[(s1 1)]? = some (.cells #[.int .i64 tab, .slice (a1) (4) (c1), .int .i64 hh, .slice (a2) (2) (c2), .slice (a3) (2) (c3), .int .i64 sl, .bool op] 24 (0, 0)) ∧ W_.heap[(s1 2)]? = some (.cells #[.int .i64 0, .int .i64 0] 26 (0, 0)) ∧ W_.heap[(s2 2)]? = some (.cells #[.int .i64 tab, .slice (some ⟨g401', 0, none⟩) (4) (c404'), .int .i64 hh, .slice (some ⟨g402', 0, none⟩) (2) (c405'), .slice (some ⟨g403', 0, none⟩) (2) (c406'), .int .i64 sl, .bool op] 24 (0, 0)) ∧ W_.heap[(s4 0)]? = some (.cells #[] 3 (0, 0)) ∧ W_.heap[(s4 1)]? = some (.cells #[.int .i64 0] 3 (0, 0)) ∧ W_.heap[(s1 0)]? = some (.cells #[.int .i64 ((O i).1), .int .i64 ((O i).2)] 26 (0, 0)) ∧ OwnI w.heap.size ([t0, t1]) g402' c405' W_ ∧ Ii W_ al (rangeL L U).length cl (rangeL L U) ∧ Ii W_ af (rangeL F G).length cf (rangeL F G) ∧ OwnI w.heap.size ([q, p1, p2, p3]) g401' c404' W_ ∧ OwnI w.heap.size ([u0, v]) g403' c406' W_ ∧ (i ≤ (rangeL L U).length) ∧ (1 ≤ q ∧ q ≤ 3000) ∧ (0 ≤ v ∧ v ≤ 3000))) ⟨_, g13, rfl, 0, p0, u1, rfl, k13_2, k13_3, k13_5, k13_10, k13_11, k13_14, k13_12, k13_13, k13_15.trans (by rfl), fB13, Nat.le_refl _, b13_1, b13_2, b13_3, b13_4, b13_5, (by rw [hO0]; exact b13_0), q482', q484', q485', q481', q483', (by omega), gp0, gu1⟩ ?_
 rintro _ _ W_486 ⟨g_486, rfl, i, q, v, rfl, k_486_2, k_486_3, k_486_5, k_486_10, k_486_11, k_486_14, k_486_12, k_486_13, k_486_15, fB_486, z_486, b_486_0, b_486_1, b_486_2, b_486_3, b_486_4, m_486_0, q487', q488', q489', q490', q491', lp0, lp1, lp2⟩
 refine wp_seq_k fun K17 hK17 => ?_
 refine wp_seq_k fun K18 hK18 => ?_
 refine region_dk 4 [(69, 0), (70, 1), (71, 2), (72, 3)] [[], [], [1], [0, 1, 2]] (rel [is (.int .i64 ((i : Int))),
   is (.slice (al) ((rangeL L U).length) (cl)),
   is (.int .i64 (((rangeL L U).length : Int))),
   is (.bool (decide ((i : Int) < ((rangeL L U).length : Int))))])
  ⟨is_k, is_k, is_k, is_k, trivial⟩
  ⟨fun f s W d l r u y a => opv rfl rfl (by simp [go_sem, a.e 15 k_486_15]) rfl,
  fun f s W d l r u y a => opv rfl rfl (by simp [go_sem, a.e 12 k_486_12]) rfl,
  fun f s W d l r u y a => opv rfl rfl (by simp [go_sem, a.e 70 (l 1 rfl)]) rfl,
  fun f s W d l r u y a => opv rfl rfl (by simp [go_sem, a.e 69 (l 0 rfl), a.e 71 (l 2 rfl)]) rfl, trivial⟩ ?_
 intro f14 s14 W14 hB14 g14 hg14
 have fB14 := hB14.f fB_486
 have z14 := hB14.below.size
 have b14_0 := hB14.b b_486_0
 have b14_1 := hB14.b b_486_1
 have b14_2 := hB14.b b_486_2
 have b14_3 := hB14.b b_486_3
 have b14_4 := hB14.b b_486_4
 have b14_5 := hB14.b m_486_0
 have q492' := (q487'.below hB14.below)
 have q493' := (q488'.bw hB14)
 have q494' := (q489'.bw hB14)
 have q495' := (q490'.below hB14.below)
 have q496' := (q491'.below hB14.below)
 refine hK18 _ _ ?_
 have k14_2 := kt hg14 2 k_486_2
 have k14_3 := kt hg14 3 k_486_3
 have k14_5 := kt hg14 5 k_486_5
 have k14_10 := kt hg14 10 k_486_10
 have k14_11 := kt hg14 11 k_486_11
 have k14_14 := kt hg14 14 k_486_14
 have k14_12 := kt hg14 12 k_486_12
 have k14_13 := kt hg14 13 k_486_13
 have k14_15 := kt hg14 15 k_486_15
 have k14_72 := kt hg14 72 (hB14.is 3)
 refine wp_cond_split (t := decide ((i : Int) < ((rangeL L U).length : Int))) ((fr_eval rfl).trans k14_72) (fun hc19 => ?_) (fun hc19 => ?_)
 ·
  have hc19' := hc19; try simp only [ba] at hc19'
  obtain ⟨bx, ox, hax, hlx, hcx⟩ := q493'.at (by omega)
  have lix := Nat.not_le.2 (show i < (rangeL L U).length by omega)
  have hxb : (rangeL L U).length = (U + 1 - L).toNat := rangeL_len L U
  refine wp_skip ?_
  refine hK17 _ _ ?_
  refine wp_seq_k fun K20 hK20 => ?_
  refine wp_block ?_
  refine wp_seq_k fun K21 hK21 => ?_
  refine region_dk 1 [(16, 0)] [[]] (rel [is (.int .i64 0)])
   ⟨is_k, trivial⟩
   ⟨fun f s W d l r u y a => opv rfl rfl (by simp [go_sem]) rfl, trivial⟩ ?_
  intro f15 s15 W15 hB15 g15 hg15
  have fB15 := hB15.f fB14
  have z15 := hB15.below.size
  have b15_0 := hB15.b b14_0
  have b15_1 := hB15.b b14_1
  have b15_2 := hB15.b b14_2
  have b15_3 := hB15.b b14_3
  have b15_4 := hB15.b b14_4
  have b15_5 := hB15.b b14_5
  have q497' := (q492'.below hB15.below)
  have q498' := (q493'.bw hB15)
  have q499' := (q494'.bw hB15)
  have q500' := (q495'.below hB15.below)
  have q501' := (q496'.below hB15.below)
  refine hK21 _ _ ?_
  have k15_2 := kt hg15 2 k14_2
  have k15_3 := kt hg15 3 k14_3
  have k15_5 := kt hg15 5 k14_5
  have k15_10 := kt hg15 10 k14_10
  have k15_11 := kt hg15 11 k14_11
  have k15_14 := kt hg15 14 k14_14
  have k15_12 := kt hg15 12 k14_12
  have k15_13 := kt hg15 13 k14_13
  have k15_15 := kt hg15 15 k14_15
  have k15_16 := kt hg15 16 (hB15.is 0)
  refine wp_block ?_
  refine wp_loop_n (fun m_ a_ W_ => ∃ g_ : Nat → Value, a_ = fr 139 g_ ∧ (∃ j : Nat, ∃ q' : Int, ∃ v' : Int, m_ = (rangeL F G).length - j ∧ g_ 2 = .int .i64 ((m : Int)) ∧ g_ 3 = .int .i64 cal ∧ g_ 5 = .pointer (some ⟨(s1 0), 0, none⟩) ∧ g_ 10 = .pointer (some ⟨(s1 2), 0, none⟩) ∧ g_ 11 = .pointer (some ⟨(s2 2), 0, none⟩) ∧ g_ 14 = .int .i64 1 ∧ g_ 12 = .slice (al) ((rangeL L U).length) (cl) ∧ g_ 13 = .slice (af) ((rangeL F G).length) (cf) ∧ g_ 15 = .int .i64 ((i : Int)) ∧ g_ 16 = .int .i64 ((j : Int)) ∧ Below w.heap.size w W_ ∧ W15.heap.size ≤ W_.heap.size ∧ W_.heap[(s1 1)]? = some (.cells #[.int .i64 tab, .slice (a1) (4) (c1), .int .i64 hh, .slice (a2) (2) (c2), .slice (a3) (2) (c3), .int .i64 sl, .bool op] 24 (0, 0)) ∧ W_.heap[(s1 2)]? = some (.cells #[.int .i64 0, .int .i64 0] 26 (0, 0)) ∧ W_.heap[(s2 2)]? = some (.cells #[.int .i64 tab, .slice (some ⟨g401', 0, none⟩) (4) (c404'), .int .i64 hh, .slice (some ⟨g402', 0, none⟩) (2) (c405'), .slice (some ⟨g403', 0, none⟩) (2) (c406'), .int .i64 sl, .bool op] 24 (0, 0)) ∧ W_.heap[(s4 0)]? = some (.cells #[] 3 (0, 0)) ∧ W_.heap[(s4 1)]? = some (.cells #[.int .i64 0] 3 (0, 0)) ∧ W_.heap[(s1 0)]? = some (.cells #[.int .i64 ((I i j).1), .int .i64 ((I i j).2)] 26 (0, 0)) ∧ OwnI w.heap.size ([t0, t1]) g402' c405' W_ ∧ Ii W_ al (rangeL L U).length cl (rangeL L U) ∧ Ii W_ af (rangeL F G).length cf (rangeL F G) ∧ OwnI w.heap.size ([q', p1, p2, p3]) g401' c404' W_ ∧ OwnI w.heap.size ([u0, v']) g403' c406' W_ ∧ (j ≤ (rangeL F G).length) ∧ (1 ≤ q' ∧ q' ≤ 3000) ∧ (0 ≤ v' ∧ v' ≤ 3000))) ⟨_, g15, rfl, 0, q, v, rfl, k15_2, k15_3, k15_5, k15_10, k15_11, k15_14, k15_12, k15_13, k15_15, k15_16.trans (by rfl), fB15, Nat.le_refl _, b15_0, b15_1, b15_2, b15_3, b15_4, (by rw [hI0]; exact b15_5), q497', q498', q499', q500', q501', (by omega), lp1, lp2⟩ ?_
  rintro _ _ W_502 ⟨g_502, rfl, j, q', v', rfl, k_502_2, k_502_3, k_502_5, k_502_10, k_502_11, k_502_14, k_502_12, k_502_13, k_502_15, k_502_16, fB_502, z_502, b_502_0, b_502_1, b_502_2, b_502_3, b_502_4, m_502_0, q503', q504', q505', q506', q507', mp0, mp1, mp2⟩
  refine wp_seq_k fun K22 hK22 => ?_
  refine wp_seq_k fun K23 hK23 => ?_
  refine region_dk 4 [(75, 0), (76, 1), (77, 2), (78, 3)] [[], [], [1], [0, 1, 2]] (rel [is (.int .i64 ((j : Int))),
   is (.slice (af) ((rangeL F G).length) (cf)),
   is (.int .i64 (((rangeL F G).length : Int))),
   is (.bool (decide ((j : Int) < ((rangeL F G).length : Int))))])
   ⟨is_k, is_k, is_k, is_k, trivial⟩
   ⟨fun f s W d l r u y a => opv rfl rfl (by simp [go_sem, a.e 16 k_502_16]) rfl,
  fun f s W d l r u y a => opv rfl rfl (by simp [go_sem, a.e 13 k_502_13]) rfl,
  fun f s W d l r u y a => opv rfl rfl (by simp [go_sem, a.e 76 (l 1 rfl)]) rfl,
  fun f s W d l r u y a => opv rfl rfl (by simp [go_sem, a.e 75 (l 0 rfl), a.e 77 (l 2 rfl)]) rfl, trivial⟩ ?_
  intro f16 s16 W16 hB16 g16 hg16
  have fB16 := hB16.f fB_502
  have z16 := hB16.below.size
  have b16_0 := hB16.b b_502_0
  have b16_1 := hB16.b b_502_1
  have b16_2 := hB16.b b_502_2
  have b16_3 := hB16.b b_502_3
  have b16_4 := hB16.b b_502_4
  have b16_5 := hB16.b m_502_0
  have q508' := (q503'.below hB16.below)
  have q509' := (q504'.bw hB16)
  have q510' := (q505'.bw hB16)
  have q511' := (q506'.below hB16.below)
  have q512' := (q507'.below hB16.below)
  refine hK23 _ _ ?_
  have k16_2 := kt hg16 2 k_502_2
  have k16_3 := kt hg16 3 k_502_3
  have k16_5 := kt hg16 5 k_502_5
  have k16_10 := kt hg16 10 k_502_10
  have k16_11 := kt hg16 11 k_502_11
  have k16_14 := kt hg16 14 k_502_14
  have k16_12 := kt hg16 12 k_502_12
  have k16_13 := kt hg16 13 k_502_13
  have k16_15 := kt hg16 15 k_502_15
  have k16_16 := kt hg16 16 k_502_16
  have k16_78 := kt hg16 78 (hB16.is 3)
  refine wp_cond_split (t := decide ((j : Int) < ((rangeL F G).length : Int))) ((fr_eval rfl).trans k16_78) (fun hc24 => ?_) (fun hc24 => ?_)
  ·
   have hc24' := hc24; try simp only [ba] at hc24'
   obtain ⟨bf, of, haf, hlf, hcf⟩ := q510'.at (by omega)
   have lif := Nat.not_le.2 (show j < (rangeL F G).length by omega)
   have hyb : (rangeL F G).length = (G + 1 - F).toNat := rangeL_len F G
   refine wp_skip ?_
   refine hK22 _ _ ?_
   refine wp_seq_k fun K25 hK25 => ?_
   refine wp_block ?_
   refine wp_seq_k fun K26 hK26 => ?_
   refine region_dk 1 [(17, 0)] [[]] (rel [is (.int .i64 0)])
    ⟨is_k, trivial⟩
    ⟨fun f s W d l r u y a => opv rfl rfl (by simp [go_sem]) rfl, trivial⟩ ?_
   intro f17 s17 W17 hB17 g17 hg17
   have fB17 := hB17.f fB16
   have z17 := hB17.below.size
   have b17_0 := hB17.b b16_0
   have b17_1 := hB17.b b16_1
   have b17_2 := hB17.b b16_2
   have b17_3 := hB17.b b16_3
   have b17_4 := hB17.b b16_4
   have b17_5 := hB17.b b16_5
   have q513' := (q508'.below hB17.below)
   have q514' := (q509'.bw hB17)
   have q515' := (q510'.bw hB17)
   have q516' := (q511'.below hB17.below)
   have q517' := (q512'.below hB17.below)
   refine hK26 _ _ ?_
   have k17_2 := kt hg17 2 k16_2
   have k17_3 := kt hg17 3 k16_3
   have k17_5 := kt hg17 5 k16_5
   have k17_10 := kt hg17 10 k16_10
   have k17_11 := kt hg17 11 k16_11
   have k17_14 := kt hg17 14 k16_14
   have k17_12 := kt hg17 12 k16_12
   have k17_13 := kt hg17 13 k16_13
   have k17_15 := kt hg17 15 k16_15
   have k17_16 := kt hg17 16 k16_16
   have k17_17 := kt hg17 17 (hB17.is 0)
   refine wp_seq_k fun K27 hK27 => ?_
   refine wp_block ?_
   refine wp_seq_k fun K28 hK28 => ?_
   refine region_dk 3 [(104, 0), (105, 1), (103, 2)] [[], [0], [0, 1]] (rel [is (.int .i64 ((m : Int))),
   is (.bool (decide ((m : Int) < 4))),
   is (.bool (decide ((m : Int) < 4)))])
    ⟨is_k, is_k, is_k, trivial⟩
    ⟨fun f s W d l r u y a => opv rfl rfl (by simp [go_sem, a.e 2 k17_2]) rfl,
  fun f s W d l r u y a => opv rfl rfl (by simp [go_sem, a.e 104 (l 0 rfl)]) rfl,
  fun f s W d l r u y a => opv rfl rfl (by simp [go_sem, a.e 105 (l 1 rfl)]) rfl, trivial⟩ ?_
   intro f18 s18 W18 hB18 g18 hg18
   have fB18 := hB18.f fB17
   have z18 := hB18.below.size
   have b18_0 := hB18.b b17_0
   have b18_1 := hB18.b b17_1
   have b18_2 := hB18.b b17_2
   have b18_3 := hB18.b b17_3
   have b18_4 := hB18.b b17_4
   have b18_5 := hB18.b b17_5
   have q518' := (q513'.below hB18.below)
   have q519' := (q514'.bw hB18)
   have q520' := (q515'.bw hB18)
   have q521' := (q516'.below hB18.below)
   have q522' := (q517'.below hB18.below)
   refine hK28 _ _ ?_
   have k18_2 := kt hg18 2 k17_2
   have k18_3 := kt hg18 3 k17_3
   have k18_5 := kt hg18 5 k17_5
   have k18_10 := kt hg18 10 k17_10
   have k18_11 := kt hg18 11 k17_11
   have k18_14 := kt hg18 14 k17_14
   have k18_12 := kt hg18 12 k17_12
   have k18_13 := kt hg18 13 k17_13
   have k18_15 := kt hg18 15 k17_15
   have k18_16 := kt hg18 16 k17_16
   have k18_17 := kt hg18 17 k17_17
   have k18_103 := kt hg18 103 (hB18.is 2)
   have hc29 : (fr 139 g18).eval (.tmp 103) = .bool false := ((fr_eval rfl).trans k18_103).trans (by rw [hm1])
   refine wp_cond_false (hc29) ?_
   refine wp_seq_k fun K30 hK30 => ?_
   refine region_dk 3 [(119, 0), (120, 1), (118, 2)] [[], [0], [0, 1]] (rel [is (.int .i64 ((m : Int))),
   is (.bool ((m : Int) == 4)),
   is (.bool ((m : Int) == 4))])
    ⟨is_k, is_k, is_k, trivial⟩
    ⟨fun f s W d l r u y a => opv rfl rfl (by simp [go_sem, a.e 2 k18_2]) rfl,
  fun f s W d l r u y a => opv rfl rfl (by simp [go_sem, a.e 119 (l 0 rfl)]) rfl,
  fun f s W d l r u y a => opv rfl rfl (by simp [go_sem, a.e 120 (l 1 rfl)]) rfl, trivial⟩ ?_
   intro f19 s19 W19 hB19 g19 hg19
   have fB19 := hB19.f fB18
   have z19 := hB19.below.size
   have b19_0 := hB19.b b18_0
   have b19_1 := hB19.b b18_1
   have b19_2 := hB19.b b18_2
   have b19_3 := hB19.b b18_3
   have b19_4 := hB19.b b18_4
   have b19_5 := hB19.b b18_5
   have q523' := (q518'.below hB19.below)
   have q524' := (q519'.bw hB19)
   have q525' := (q520'.bw hB19)
   have q526' := (q521'.below hB19.below)
   have q527' := (q522'.below hB19.below)
   refine hK30 _ _ ?_
   have k19_2 := kt hg19 2 k18_2
   have k19_3 := kt hg19 3 k18_3
   have k19_5 := kt hg19 5 k18_5
   have k19_10 := kt hg19 10 k18_10
   have k19_11 := kt hg19 11 k18_11
   have k19_14 := kt hg19 14 k18_14
   have k19_12 := kt hg19 12 k18_12
   have k19_13 := kt hg19 13 k18_13
   have k19_15 := kt hg19 15 k18_15
   have k19_16 := kt hg19 16 k18_16
   have k19_17 := kt hg19 17 k18_17
   have k19_118 := kt hg19 118 (hB19.is 2)
   have hc31 : (fr 139 g19).eval (.tmp 118) = .bool false := ((fr_eval rfl).trans k19_118).trans (by rw [hm2])
   refine wp_cond_false (hc31) ?_
   refine wp_seq_k fun K32 hK32 => ?_
   refine region_dk 9 [(81, 0), (82, 1), (83, 2), (84, 3), (85, 4), (86, 5), (87, 6), (88, 7), (89, 8)] [[], [0], [], [2], [], [], [4, 5], [4, 5, 6], [0, 1, 2, 3, 4, 5, 6, 7], [0, 1, 2, 3, 4, 5, 6, 7, 8]] (rel [is (.pointer (some ⟨(s2 2), 1, none⟩)),
   is (.slice (some ⟨g401', 0, none⟩) (4) (c404')),
   is (.int .i64 1),
   is (.int .i64 0),
   is (.slice (al) ((rangeL L U).length) (cl)),
   is (.int .i64 ((i : Int))),
   is (.pointer (some ⟨bx, ox + i, none⟩)),
   is (.int .i64 ((L + (i : Int)))),
   is (.pointer (some ⟨g401', 0, none⟩))])
    ⟨is_k, is_k, is_k, is_k, is_k, is_k, is_k, is_k, is_k, trivial⟩
    ⟨fun f s W d l r u y a => opv rfl rfl (by simp [go_sem, a.e 11 k19_11]) rfl,
  fun f s W d l r u y a => opv rfl rfl (by simp [go_sem, a.e 81 (l 0 rfl), cb b19_2 d 1]) rfl,
  fun f s W d l r u y a => opv rfl rfl (by simp [go_sem, a.e 14 k19_14]) rfl,
  fun f s W d l r u y a => opv rfl rfl (by simp [go_sem, a.e 83 (l 2 rfl), IntWalk.i64_in (0) (by omega)]) rfl,
  fun f s W d l r u y a => opv rfl rfl (by simp [go_sem, a.e 12 k19_12]) rfl,
  fun f s W d l r u y a => opv rfl rfl (by simp [go_sem, a.e 15 k19_15]) rfl,
  fun f s W d l r u y a => opv rfl rfl (by simp [go_sem, a.e 85 (l 4 rfl), a.e 86 (l 5 rfl), hax, lix]) rfl,
  fun f s W d l r u y a => by have u_ := rd_cell (q524'.below d (Nat.le_refl _)) hax (i := i) (by omega); exact opv rfl rfl (by simp [go_sem, a.e 87 (l 6 rfl), u_]) rfl,
  fun f s W d l r u y a => opv rfl rfl (by simp [go_sem, a.e 82 (l 1 rfl), a.e 84 (l 3 rfl)]) rfl, trivial⟩ ?_
   intro f20 s20 W20 hB20 g20 hg20
   have fB20 := hB20.f fB19
   have z20 := hB20.below.size
   have b20_0 := hB20.b b19_0
   have b20_1 := hB20.b b19_1
   have b20_2 := hB20.b b19_2
   have b20_3 := hB20.b b19_3
   have b20_4 := hB20.b b19_4
   have b20_5 := hB20.b b19_5
   have q528' := (q523'.below hB20.below)
   have q529' := (q524'.bw hB20)
   have q530' := (q525'.bw hB20)
   have q531' := (q526'.below hB20.below)
   have q532' := (q527'.below hB20.below)
   have k20_2 := kt hg20 2 k19_2
   have k20_3 := kt hg20 3 k19_3
   have k20_5 := kt hg20 5 k19_5
   have k20_10 := kt hg20 10 k19_10
   have k20_11 := kt hg20 11 k19_11
   have k20_14 := kt hg20 14 k19_14
   have k20_12 := kt hg20 12 k19_12
   have k20_13 := kt hg20 13 k19_13
   have k20_15 := kt hg20 15 k19_15
   have k20_16 := kt hg20 16 k19_16
   have k20_17 := kt hg20 17 k19_17
   have k20_88 := kt hg20 88 (hB20.is 7)
   have k20_89 := kt hg20 89 (hB20.is 8)
   obtain ⟨W21, st21, ow21, ot21, z21, fB21⟩ := storeI_tail (c := c404') (i := 0) (x := (L + (i : Int))) ([(L + (i : Int)), p1, p2, p3]) (by simp) rfl fB20 q531'
   refine tail_skip (o := _) rfl ⟨rfl, rfl⟩ (st21 (fr_ev k20_89) (fr_ev k20_88)) ?_
   have b21_0 := ot21 _ _ (by omega) b20_0
   have b21_1 := ot21 _ _ (by omega) b20_1
   have b21_2 := ot21 _ _ (by omega) b20_2
   have b21_3 := ot21 _ _ (by omega) b20_3
   have b21_4 := ot21 _ _ (by omega) b20_4
   have b21_5 := ot21 _ _ (by omega) b20_5
   have q533' := q528'.other ot21 (by omega) z21
   have q534' := (q529'.otherI ot21 (fun g o e hx => by have := jp_0 g o e; omega) z21)
   have q535' := (q530'.otherI ot21 (fun g o e hx => by have := jp_1 g o e; omega) z21)
   have q536' := q532'.other ot21 (by omega) z21
   refine wpOps_end ?_
   refine hK32 _ _ ?_
   refine wp_seq_k fun K33 hK33 => ?_
   refine region_dk 8 [(90, 0), (91, 1), (92, 2), (93, 3), (94, 4), (95, 5), (96, 6), (97, 7)] [[], [0], [], [], [], [3, 4], [3, 4, 5], [0, 1, 2, 3, 4, 5, 6], [0, 1, 2, 3, 4, 5, 6, 7]] (rel [is (.pointer (some ⟨(s2 2), 4, none⟩)),
   is (.slice (some ⟨g403', 0, none⟩) (2) (c406')),
   is (.int .i64 1),
   is (.slice (af) ((rangeL F G).length) (cf)),
   is (.int .i64 ((j : Int))),
   is (.pointer (some ⟨bf, of + j, none⟩)),
   is (.int .i64 ((F + (j : Int)))),
   is (.pointer (some ⟨g403', 1, none⟩))])
    ⟨is_k, is_k, is_k, is_k, is_k, is_k, is_k, is_k, trivial⟩
    ⟨fun f s W d l r u y a => opv rfl rfl (by simp [go_sem, a.e 11 k20_11]) rfl,
  fun f s W d l r u y a => opv rfl rfl (by simp [go_sem, a.e 90 (l 0 rfl), cb b21_2 d 4]) rfl,
  fun f s W d l r u y a => opv rfl rfl (by simp [go_sem, a.e 14 k20_14]) rfl,
  fun f s W d l r u y a => opv rfl rfl (by simp [go_sem, a.e 13 k20_13]) rfl,
  fun f s W d l r u y a => opv rfl rfl (by simp [go_sem, a.e 16 k20_16]) rfl,
  fun f s W d l r u y a => opv rfl rfl (by simp [go_sem, a.e 93 (l 3 rfl), a.e 94 (l 4 rfl), haf, lif]) rfl,
  fun f s W d l r u y a => by have u_ := rd_cell (q535'.below d (Nat.le_refl _)) haf (i := j) (by omega); exact opv rfl rfl (by simp [go_sem, a.e 95 (l 5 rfl), u_]) rfl,
  fun f s W d l r u y a => opv rfl rfl (by simp [go_sem, a.e 91 (l 1 rfl), a.e 92 (l 2 rfl)]) rfl, trivial⟩ ?_
   intro f22 s22 W22 hB22 g22 hg22
   have fB22 := hB22.f fB21
   have z22 := hB22.below.size
   have b22_0 := hB22.b b21_0
   have b22_1 := hB22.b b21_1
   have b22_2 := hB22.b b21_2
   have b22_3 := hB22.b b21_3
   have b22_4 := hB22.b b21_4
   have b22_5 := hB22.b b21_5
   have q537' := (q533'.below hB22.below)
   have q538' := (q534'.bw hB22)
   have q539' := (q535'.bw hB22)
   have q540' := (q536'.below hB22.below)
   have q541' := (ow21.below hB22.below)
   have k22_2 := kt hg22 2 k20_2
   have k22_3 := kt hg22 3 k20_3
   have k22_5 := kt hg22 5 k20_5
   have k22_10 := kt hg22 10 k20_10
   have k22_11 := kt hg22 11 k20_11
   have k22_14 := kt hg22 14 k20_14
   have k22_12 := kt hg22 12 k20_12
   have k22_13 := kt hg22 13 k20_13
   have k22_15 := kt hg22 15 k20_15
   have k22_16 := kt hg22 16 k20_16
   have k22_17 := kt hg22 17 k20_17
   have k22_96 := kt hg22 96 (hB22.is 6)
   have k22_97 := kt hg22 97 (hB22.is 7)
   obtain ⟨W23, st23, ow23, ot23, z23, fB23⟩ := storeI_tail (c := c406') (i := 1) (x := (F + (j : Int))) ([u0, (F + (j : Int))]) (by simp) rfl fB22 q540'
   refine tail_skip (o := _) rfl ⟨rfl, rfl⟩ (st23 (fr_ev k22_97) (fr_ev k22_96)) ?_
   have b23_0 := ot23 _ _ (by omega) b22_0
   have b23_1 := ot23 _ _ (by omega) b22_1
   have b23_2 := ot23 _ _ (by omega) b22_2
   have b23_3 := ot23 _ _ (by omega) b22_3
   have b23_4 := ot23 _ _ (by omega) b22_4
   have b23_5 := ot23 _ _ (by omega) b22_5
   have q542' := q537'.other ot23 (by omega) z23
   have q543' := (q538'.otherI ot23 (fun g o e hx => by have := jp_0 g o e; omega) z23)
   have q544' := (q539'.otherI ot23 (fun g o e hx => by have := jp_1 g o e; omega) z23)
   have q545' := q541'.other ot23 (by omega) z23
   refine wpOps_end ?_
   refine hK33 _ _ ?_
   refine region_dk 6 [(98, 0), (99, 1), (100, 2), (101, 3), (102, 4), (17, 5)] [[], [], [1], [], [0, 1, 2, 3], [0, 1, 2, 3, 4]] (rel [is (.agg #[.int .i64 tab, .slice (some ⟨g401', 0, none⟩) (4) (c404'), .int .i64 hh, .slice (some ⟨g402', 0, none⟩) (2) (c405'), .slice (some ⟨g403', 0, none⟩) (2) (c406'), .int .i64 sl, .bool op]),
   is (.int .i64 1),
   is (.bool false),
   is (.int .i64 cal),
   is (.int .i64 ((1000 * (L + (i : Int)) - cal - 1000 * (F + (j : Int))) - 1000 * (F + (j : Int)))),
   is (.int .i64 ((1000 * (L + (i : Int)) - cal - 1000 * (F + (j : Int))) - 1000 * (F + (j : Int))))])
    ⟨is_k, is_k, is_k, is_k, is_k, is_k, trivial⟩
    ⟨fun f s W d l r u y a => opv rfl rfl (by simp [go_sem, a.e 11 k22_11, cb b23_2 d 0, cb b23_2 d 1, cb b23_2 d 2, cb b23_2 d 3, cb b23_2 d 4, cb b23_2 d 5, cb b23_2 d 6]) rfl,
  fun f s W d l r u y a => opv rfl rfl (by simp [go_sem, a.e 14 k22_14]) rfl,
  fun f s W d l r u y a => opv rfl rfl (by simp [go_sem, a.e 99 (l 1 rfl)]) rfl,
  fun f s W d l r u y a => opv rfl rfl (by simp [go_sem, a.e 3 k22_3]) rfl,
  fun f s W d l r u y a => opc (args := #[.agg #[.int .i64 tab, .slice (some ⟨g401', 0, none⟩) (4) (c404'), .int .i64 hh, .slice (some ⟨g402', 0, none⟩) (2) (c405'), .slice (some ⟨g403', 0, none⟩) (2) (c406'), .int .i64 sl, .bool op], .bool false, .bool false, .int .i64 cal]) rfl rfl (by simp [go_sem, a.e 98 (l 0 rfl), a.e 100 (l 2 rfl), a.e 101 (l 3 rfl)]) (gapR_blk (b := ⟨tab, [(L + (i : Int)), p1, p2, p3], hh, [t0, t1], [u0, (F + (j : Int))], sl, op⟩) ⟨_, _, _, _, _, _, _, _, _, rfl, (OwnI.iin (n := 4) ((q545'.below d)) rfl), (OwnI.iin (n := 2) ((q542'.below d)) rfl), (OwnI.iin (n := 2) ((ow23.below d)) rfl)⟩ false false cal (check_lit gt gs gh (by omega) gp1 gp2 gp3 gt0 gt1 gu0 (by omega) hop) (by omega)),
  fun f s W d l r u y a => opv rfl rfl (by simp [go_sem, a.e 102 (l 4 rfl)]) rfl, trivial⟩ ?_
   intro f24 s24 W24 hB24 g24 hg24
   have fB24 := hB24.f fB23
   have z24 := hB24.below.size
   have b24_0 := hB24.b b23_0
   have b24_1 := hB24.b b23_1
   have b24_2 := hB24.b b23_2
   have b24_3 := hB24.b b23_3
   have b24_4 := hB24.b b23_4
   have b24_5 := hB24.b b23_5
   have q546' := (q542'.below hB24.below)
   have q547' := (q543'.bw hB24)
   have q548' := (q544'.bw hB24)
   have q549' := (q545'.below hB24.below)
   have q550' := (ow23.below hB24.below)
   refine wpOps_end ?_
   have k24_2 := kt hg24 2 k22_2
   have k24_3 := kt hg24 3 k22_3
   have k24_5 := kt hg24 5 k22_5
   have k24_10 := kt hg24 10 k22_10
   have k24_11 := kt hg24 11 k22_11
   have k24_14 := kt hg24 14 k22_14
   have k24_12 := kt hg24 12 k22_12
   have k24_13 := kt hg24 13 k22_13
   have k24_15 := kt hg24 15 k22_15
   have k24_16 := kt hg24 16 k22_16
   have k24_17 := kt hg24 17 (hB24.is 5)
   refine inBlock_normal ?_
   refine hK27 _ _ ?_
   refine region_dk 9 [(129, 0), (130, 1), (131, 2), (132, 3), (133, 4), (134, 5), (135, 6), (136, 7), (137, 8)] [[], [0], [], [0, 1, 2], [], [4], [], [4, 5, 6], [0, 1, 2, 3, 4, 5, 6, 7], [0, 1, 2, 3, 4, 5, 6, 7, 8]] (rel [is (.pointer (some ⟨(s1 0), 0, none⟩)),
   is (.int .i64 ((I i j).1)),
   is (.int .i64 ((1000 * (L + (i : Int)) - cal - 1000 * (F + (j : Int))) - 1000 * (F + (j : Int)))),
   is (.int .i64 (min ((I i j).1) ((1000 * (L + (i : Int)) - cal - 1000 * (F + (j : Int))) - 1000 * (F + (j : Int))))),
   is (.pointer (some ⟨(s1 0), 1, none⟩)),
   is (.int .i64 ((I i j).2)),
   is (.int .i64 ((1000 * (L + (i : Int)) - cal - 1000 * (F + (j : Int))) - 1000 * (F + (j : Int)))),
   is (.int .i64 (max ((I i j).2) ((1000 * (L + (i : Int)) - cal - 1000 * (F + (j : Int))) - 1000 * (F + (j : Int))))),
   is (.agg #[.int .i64 (min ((I i j).1) ((1000 * (L + (i : Int)) - cal - 1000 * (F + (j : Int))) - 1000 * (F + (j : Int)))), .int .i64 (max ((I i j).2) ((1000 * (L + (i : Int)) - cal - 1000 * (F + (j : Int))) - 1000 * (F + (j : Int))))])])
    ⟨is_k, is_k, is_k, is_k, is_k, is_k, is_k, is_k, is_k, trivial⟩
    ⟨fun f s W d l r u y a => opv rfl rfl (by simp [go_sem, a.e 5 k24_5]) rfl,
  fun f s W d l r u y a => opv rfl rfl (by simp [go_sem, a.e 129 (l 0 rfl), cb b24_5 d 0]) rfl,
  fun f s W d l r u y a => opv rfl rfl (by simp [go_sem, a.e 17 k24_17]) rfl,
  fun f s W d l r u y a => opv rfl rfl (by simp [go_sem, a.e 130 (l 1 rfl), a.e 131 (l 2 rfl)]) rfl,
  fun f s W d l r u y a => opv rfl rfl (by simp [go_sem, a.e 5 k24_5]) rfl,
  fun f s W d l r u y a => opv rfl rfl (by simp [go_sem, a.e 133 (l 4 rfl), cb b24_5 d 1]) rfl,
  fun f s W d l r u y a => opv rfl rfl (by simp [go_sem, a.e 17 k24_17]) rfl,
  fun f s W d l r u y a => opv rfl rfl (by simp [go_sem, a.e 134 (l 5 rfl), a.e 135 (l 6 rfl)]) rfl,
  fun f s W d l r u y a => opc rfl rfl (by simp [go_sem, a.e 132 (l 3 rfl), a.e 136 (l 7 rfl)]) (span_any (min ((I i j).1) ((1000 * (L + (i : Int)) - cal - 1000 * (F + (j : Int))) - 1000 * (F + (j : Int)))) (max ((I i j).2) ((1000 * (L + (i : Int)) - cal - 1000 * (F + (j : Int))) - 1000 * (F + (j : Int)))) W), trivial⟩ ?_
   intro f25 s25 W25 hB25 g25 hg25
   have fB25 := hB25.f fB24
   have z25 := hB25.below.size
   have b25_0 := hB25.b b24_0
   have b25_1 := hB25.b b24_1
   have b25_2 := hB25.b b24_2
   have b25_3 := hB25.b b24_3
   have b25_4 := hB25.b b24_4
   have b25_5 := hB25.b b24_5
   have q551' := (q546'.below hB25.below)
   have q552' := (q547'.bw hB25)
   have q553' := (q548'.bw hB25)
   have q554' := (q549'.below hB25.below)
   have q555' := (q550'.below hB25.below)
   have k25_2 := kt hg25 2 k24_2
   have k25_3 := kt hg25 3 k24_3
   have k25_5 := kt hg25 5 k24_5
   have k25_10 := kt hg25 10 k24_10
   have k25_11 := kt hg25 11 k24_11
   have k25_14 := kt hg25 14 k24_14
   have k25_12 := kt hg25 12 k24_12
   have k25_13 := kt hg25 13 k24_13
   have k25_15 := kt hg25 15 k24_15
   have k25_16 := kt hg25 16 k24_16
   have k25_137 := kt hg25 137 (hB25.is 8)
   obtain ⟨W26, hW26⟩ : ∃ W', W' = W25.setRow (s1 0) #[.int .i64 (min ((I i j).1) ((1000 * (L + (i : Int)) - cal - 1000 * (F + (j : Int))) - 1000 * (F + (j : Int)))), .int .i64 (max ((I i j).2) ((1000 * (L + (i : Int)) - cal - 1000 * (F + (j : Int))) - 1000 * (F + (j : Int))))] := ⟨_, rfl⟩
   refine tail_skip (o := _) rfl ⟨rfl, rfl⟩ (run_seg hW26 (fr_ev k25_5) (fr_ev k25_137) b25_5 rfl rfl rfl rfl) ?_
   obtain ⟨fB26, nb26, ot26, z26⟩ := seg_facts hW26 fB25 b25_5 (by omega)
   clear hW26
   have b26_0 := ot26 _ _ (by omega) b25_0
   have b26_1 := ot26 _ _ (by omega) b25_1
   have b26_2 := ot26 _ _ (by omega) b25_2
   have b26_3 := ot26 _ _ (by omega) b25_3
   have b26_4 := ot26 _ _ (by omega) b25_4
   have q556' := q551'.other ot26 (by omega) z26
   have q557' := (q552'.otherI ot26 (fun g o e hx => by have := jp_0 g o e; omega) z26)
   have q558' := (q553'.otherI ot26 (fun g o e hx => by have := jp_1 g o e; omega) z26)
   have q559' := q554'.other ot26 (by omega) z26
   have q560' := q555'.other ot26 (by omega) z26
   refine wpOps_end ?_
   refine inBlock_normal ?_
   refine hK25 _ _ ?_
   refine region_dk 3 [(79, 0), (80, 1), (16, 2)] [[], [0], [0, 1]] (rel [is (.int .i64 ((j : Int))),
   is (.int .i64 ((j : Int) + 1)),
   is (.int .i64 ((j : Int) + 1))])
    ⟨is_k, is_k, is_k, trivial⟩
    ⟨fun f s W d l r u y a => opv rfl rfl (by simp [go_sem, a.e 16 ((u 2 16 rfl rfl).trans k25_16)]) rfl,
  fun f s W d l r u y a => opv rfl rfl (by simp [go_sem, a.e 79 (l 0 rfl), IntWalk.i64_in ((j : Int) + 1) (by omega)]) rfl,
  fun f s W d l r u y a => opv rfl rfl (by simp [go_sem, a.e 80 (l 1 rfl)]) rfl, trivial⟩ ?_
   intro f27 s27 W27 hB27 g27 hg27
   have fB27 := hB27.f fB26
   have z27 := hB27.below.size
   have b27_0 := hB27.b b26_0
   have b27_1 := hB27.b b26_1
   have b27_2 := hB27.b b26_2
   have b27_3 := hB27.b b26_3
   have b27_4 := hB27.b b26_4
   have b27_5 := hB27.b nb26
   have q561' := (q556'.below hB27.below)
   have q562' := (q557'.bw hB27)
   have q563' := (q558'.bw hB27)
   have q564' := (q559'.below hB27.below)
   have q565' := (q560'.below hB27.below)
   refine wpOps_end ?_
   have k27_2 := kt hg27 2 k25_2
   have k27_3 := kt hg27 3 k25_3
   have k27_5 := kt hg27 5 k25_5
   have k27_10 := kt hg27 10 k25_10
   have k27_11 := kt hg27 11 k25_11
   have k27_14 := kt hg27 14 k25_14
   have k27_12 := kt hg27 12 k25_12
   have k27_13 := kt hg27 13 k25_13
   have k27_15 := kt hg27 15 k25_15
   have k27_16 := kt hg27 16 (hB27.is 2)
   refine then_normal ?_
   exact ⟨_, by omega, g27, rfl, j + 1, (L + (i : Int)), (F + (j : Int)), rfl, k27_2, k27_3, k27_5, k27_10, k27_11, k27_14, k27_12, k27_13, k27_15, k27_16.trans (by go_num), fB27, (by omega), b27_0, b27_1, b27_2, b27_3, b27_4, (by rw [hIs]; exact b27_5), q561', q562', q563', q564', q565', (by omega), (by omega), (by omega)⟩
  ·
   have hc24' := hc24; try simp only [ba] at hc24'
   refine wp_exit ?_
   refine then_exit ?_
   refine then_exit ?_
   refine inBlock_at ?_
   refine inBlock_normal ?_
   refine hK20 _ _ ?_
   refine region_dk 3 [(73, 0), (74, 1), (15, 2)] [[], [0], [0, 1]] (rel [is (.int .i64 ((i : Int))),
   is (.int .i64 ((i : Int) + 1)),
   is (.int .i64 ((i : Int) + 1))])
    ⟨is_k, is_k, is_k, trivial⟩
    ⟨fun f s W d l r u y a => opv rfl rfl (by simp [go_sem, a.e 15 ((u 2 15 rfl rfl).trans k16_15)]) rfl,
  fun f s W d l r u y a => opv rfl rfl (by simp [go_sem, a.e 73 (l 0 rfl), IntWalk.i64_in ((i : Int) + 1) (by omega)]) rfl,
  fun f s W d l r u y a => opv rfl rfl (by simp [go_sem, a.e 74 (l 1 rfl)]) rfl, trivial⟩ ?_
   intro f28 s28 W28 hB28 g28 hg28
   have fB28 := hB28.f fB16
   have z28 := hB28.below.size
   have b28_0 := hB28.b b16_0
   have b28_1 := hB28.b b16_1
   have b28_2 := hB28.b b16_2
   have b28_3 := hB28.b b16_3
   have b28_4 := hB28.b b16_4
   have b28_5 := hB28.b b16_5
   have q566' := (q508'.below hB28.below)
   have q567' := (q509'.bw hB28)
   have q568' := (q510'.bw hB28)
   have q569' := (q511'.below hB28.below)
   have q570' := (q512'.below hB28.below)
   refine wpOps_end ?_
   have k28_2 := kt hg28 2 k16_2
   have k28_3 := kt hg28 3 k16_3
   have k28_5 := kt hg28 5 k16_5
   have k28_10 := kt hg28 10 k16_10
   have k28_11 := kt hg28 11 k16_11
   have k28_14 := kt hg28 14 k16_14
   have k28_12 := kt hg28 12 k16_12
   have k28_13 := kt hg28 13 k16_13
   have k28_15 := kt hg28 15 (hB28.is 2)
   refine then_normal ?_
   have hj' : j = (G + 1 - F).toNat := by have := rangeL_len F G; omega
   exact ⟨_, by omega, g28, rfl, i + 1, q', v', rfl, k28_2, k28_3, k28_5, k28_10, k28_11, k28_14, k28_12, k28_13, k28_15.trans (by go_num), fB28, (by omega), b28_0, b28_1, b28_2, b28_3, b28_4, (by rw [hOI, ← hj']; exact b28_5), q566', q567', q568', q569', q570', (by omega), (by omega), (by omega)⟩
 ·
  have hc19' := hc19; try simp only [ba] at hc19'
  refine wp_exit ?_
  refine then_exit ?_
  refine then_exit ?_
  refine inBlock_at ?_
  refine hK15 _ _ ?_
  refine wp_seq_k fun K34 hK34 => ?_
  refine region_dk 1 [(138, 0)] [[], [0]] (rel [is (.agg #[.int .i64 ((O i).1), .int .i64 ((O i).2)])])
   ⟨is_k, trivial⟩
   ⟨fun f s W d l r u y a => opv rfl rfl (by simp [go_sem, a.e 5 k14_5, cb b14_5 d 0, cb b14_5 d 1]) rfl, trivial⟩ ?_
  intro f29 s29 W29 hB29 g29 hg29
  have fB29 := hB29.f fB14
  have z29 := hB29.below.size
  have b29_0 := hB29.b b14_0
  have b29_1 := hB29.b b14_1
  have b29_2 := hB29.b b14_2
  have b29_3 := hB29.b b14_3
  have b29_4 := hB29.b b14_4
  have b29_5 := hB29.b b14_5
  have q571' := (q492'.below hB29.below)
  have q572' := (q493'.bw hB29)
  have q573' := (q494'.bw hB29)
  have q574' := (q495'.below hB29.below)
  have q575' := (q496'.below hB29.below)
  have k29_10 := kt hg29 10 k14_10
  have k29_138 := kt hg29 138 (hB29.is 0)
  obtain ⟨W30, hW30⟩ : ∃ W', W' = W29.setRow (s1 2) #[.int .i64 ((O i).1), .int .i64 ((O i).2)] := ⟨_, rfl⟩
  refine tail_skip (o := _) rfl ⟨rfl, rfl⟩ (run_seg hW30 (fr_ev k29_10) (fr_ev k29_138) b29_1 rfl rfl rfl rfl) ?_
  obtain ⟨fB30, nb30, ot30, z30⟩ := seg_facts hW30 fB29 b29_1 (by omega)
  clear hW30
  have b30_0 := ot30 _ _ (by omega) b29_0
  have b30_2 := ot30 _ _ (by omega) b29_2
  have b30_3 := ot30 _ _ (by omega) b29_3
  have b30_4 := ot30 _ _ (by omega) b29_4
  have b30_5 := ot30 _ _ (by omega) b29_5
  have q576' := q571'.other ot30 (by omega) z30
  have q577' := (q572'.otherI ot30 (fun g o e hx => by have := jp_0 g o e; omega) z30)
  have q578' := (q573'.otherI ot30 (fun g o e hx => by have := jp_1 g o e; omega) z30)
  have q579' := q574'.other ot30 (by omega) z30
  have q580' := q575'.other ot30 (by omega) z30
  refine wpOps_end ?_
  refine hK34 _ _ ?_
  refine wp_ret ?_
  refine leave_gen (v := .agg #[.int .i64 ((O i).1), .int .i64 ((O i).2)]) (.inr rfl) (by simp [results, Tryz.results20, go_sem, frv 139 k29_10, Joins.cell_of_block nb30 0, Joins.cell_of_block nb30 1]) ?_
  have hi' : i = (U + 1 - L).toNat := by have := rangeL_len L U; omega
  exact ⟨by rw [← hOe, ← hi'], fB30⟩
end Go.Proofs.YthnediamopehfaaGreat
