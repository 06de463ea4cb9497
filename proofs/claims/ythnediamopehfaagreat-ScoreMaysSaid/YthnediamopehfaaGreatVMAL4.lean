/- Part of the proof: what the claim leans on. -/
import Derived.Test.YthnediamopehfaaGreatVMAS3
set_option maxHeartbeats 8000000
set_option maxRecDepth 100000
set_option linter.unusedSimpArgs false
set_option linter.unusedVariables false
namespace Go.Proofs.YthnediamopehfaaGreat
open Go.RowKit
def gapF (w : Wi) (k : Nat) (p c f : Int) : Bool := fitsR ((1000 * p - c - 1000 * f) - 1000 * f) (if k = 0 then w.outer.1 else w.inner.1) (if k = 0 then w.outer.2 else w.inner.2)
theorem gap_yes {w : Wi} {k : Nat} {p flap off c F G : Int} {i : Nat} (hFG : aroundL flap off 0 = rangeL F G) (hi : i < (rangeL F G).length) (h : gapF w k p c (F + (i : Int)) = true) : gapS w k p flap off c = true := by
  unfold gapS; rw [hFG]; exact any_range (f := gapF w k p c) hi h
theorem gap_no {w : Wi} {k : Nat} {p flap off c F G : Int} (hFG : aroundL flap off 0 = rangeL F G) (h : ∀ j : Nat, j < (rangeL F G).length → gapF w k p c (F + (j : Int)) = false) : gapS w k p flap off c = false := by
  unfold gapS; rw [hFG]; exact none_range (f := gapF w k p c) h
theorem nots_step {f : Nat → Bool} {i : Nat} (h : ∀ j, j < i → f j = false) (hi : f i = false) : ∀ j, j < i + 1 → f j = false := fun j hj => by
  rcases Nat.lt_or_ge j i with h' | h'
  · exact h j h'
  · obtain rfl : j = i := by omega
    exact hi
theorem someR_b (a1 a2 a3 : Option Addr) (c1 c2 c3 : Nat) (b : Bl) (vi : Wi) (k : Nat) (p flap off cal F G : Int) (w : World) (h1 : Ii w a1 b.panels.length c1 b.panels) (h2 : Ii w a2 b.top.length c2 b.top) (h3 : Ii w a3 b.bottom.length c3 b.bottom) (hck : checkErr b = 0) (hw : WishIn vi) (hk : k < 2) (gfl : 0 ≤ flap ∧ flap ≤ 3000) (gof : 0 ≤ off ∧ off ≤ 5) (gcl : 0 ≤ cal ∧ cal ≤ 100000) (hFG : aroundL flap off 0 = rangeL F G) (gF : 0 ≤ F) (gG : G ≤ 3000) (gFG : F ≤ G) (hp : b.panels.getD (1 - k) 0 = p) :
  Calls Tryz.prog 71 #[.agg #[.int .i64 b.tab, .slice a1 (b.panels.length) c1, .int .i64 b.height, .slice a2 (b.top.length) c2, .slice a3 (b.bottom.length) c3, .int .i64 b.slot, .bool b.isOpen], .int .i64 flap, .int .i64 off, .int .i64 ((k : Int)), .bool false, .agg #[.int .i64 vi.length.1, .int .i64 vi.length.2, .int .i64 vi.width.1, .int .i64 vi.width.2, .int .i64 vi.height.1, .int .i64 vi.height.2, .int .i64 vi.outer.1, .int .i64 vi.outer.2, .int .i64 vi.inner.1, .int .i64 vi.inner.2, .bool vi.isOpen], .int .i64 cal] w (fun e w' => e = .returned (.bool (gapS vi k p flap off cal)) ∧ Below w.heap.size w w') := by
 obtain ⟨⟨hl1, hl2, hl3⟩, -⟩ := good_nums hck
 have hne : 0 < (rangeL F G).length := by rw [rangeL_len]; omega
 have lik := Nat.not_le.2 (show k < b.bottom.length by omega)
 refine calls_fr Tryz.func71 Tryz.ntmps71 rfl rfl fun g hg => ?_
 have k0 : g 0 = .agg #[.int .i64 b.tab, .slice a1 (b.panels.length) c1, .int .i64 b.height, .slice a2 (b.top.length) c2, .slice a3 (b.bottom.length) c3, .int .i64 b.slot, .bool b.isOpen] := hg 0
 have k1 : g 1 = .int .i64 flap := hg 1
 have k2 : g 2 = .int .i64 off := hg 2
 have k3 : g 3 = .int .i64 ((k : Int)) := hg 3
 have k4 : g 4 = .bool false := hg 4
 have k5 : g 5 = .agg #[.int .i64 vi.length.1, .int .i64 vi.length.2, .int .i64 vi.width.1, .int .i64 vi.width.2, .int .i64 vi.height.1, .int .i64 vi.height.2, .int .i64 vi.outer.1, .int .i64 vi.outer.2, .int .i64 vi.inner.1, .int .i64 vi.inner.2, .bool vi.isOpen] := hg 5
 have k6 : g 6 = .int .i64 cal := hg 6
 clear hg
 have fB0 : Below w.heap.size w w := Below.refl _ _
 refine rw_ 3 [(7, 0), (12, 1), (14, 2)] [[], [], []] (rel [bx 0 #[.int .i64 b.tab, .slice a1 (b.panels.length) c1, .int .i64 b.height, .slice a2 (b.top.length) c2, .slice a3 (b.bottom.length) c3, .int .i64 b.slot, .bool b.isOpen] 24, bx 1 #[.int .i64 vi.length.1, .int .i64 vi.length.2, .int .i64 vi.width.1, .int .i64 vi.width.2, .int .i64 vi.height.1, .int .i64 vi.height.2, .int .i64 vi.outer.1, .int .i64 vi.outer.2, .int .i64 vi.inner.1, .int .i64 vi.inner.2, .bool vi.isOpen] 43, iB false])
  ⟨fun f s W l m q r u a => opb rfl rfl (by simp [go_sem, a.e 0 k0]),
  fun f s W l m q r u a => opb rfl rfl (by simp [go_sem, a.e 5 k5]),
  fun f s W l m q r u a => opz, trivial⟩ ?_
 intro f1 s1 W1 hB1 g1 hg1 z1
 have fB1 := hB1.f fB0
 obtain ⟨r1_0, br1_0⟩ := hB1.is 0
 have lr1_0 := hB1.lr 0 br1_0
 obtain ⟨r1_1, br1_1⟩ := hB1.is 1
 have lr1_1 := hB1.lr 1 br1_1
 have ne1_0_1 := hB1.nb 0 1
 have k1_1 := kt hg1 1 k1
 have k1_2 := kt hg1 2 k2
 have k1_7 := kt hg1 7 r1_0
 refine wp_seq_k fun K2 hK2 => ?_
 refine rz 6 [(18, 0), (19, 1), (20, 2), (21, 3), (22, 4), (15, 5), (16, 7)] [[], [0], [], [], [2, 3], [], [0, 1, 2, 3, 4, 5], [0, 1, 2, 3, 4, 5, 6]] (rel [is (.agg #[.int .i64 b.tab, .slice a1 (b.panels.length) c1, .int .i64 b.height, .slice a2 (b.top.length) c2, .slice a3 (b.bottom.length) c3, .int .i64 b.slot, .bool b.isOpen]), fun v s W => OwBlk (s 1) (b) v W, iI flap, iI off, fun v s W => OwI (s 4) (rangeL F G) (rangeL F G).length v W, bx 5 #[.int .i64 0, .slice none 0 0, .int .i64 0, .slice none 0 0, .slice none 0 0, .int .i64 0, .bool false] 24])
  ⟨is_k, ⟨fun v k W W' hb h => h.below hb, fun v s s' W e h => by have h' : OwBlk (s 1) (b) v W := h; show OwBlk (s' 1) (b) v W; rw [← e 1 (by simp)]; exact h'⟩, is_k, is_k, ⟨fun v k W W' hb h => h.below hb, fun v s s' W e h => by have h' : OwI (s 4) (rangeL F G) (rangeL F G).length v W := h; show OwI (s' 4) (rangeL F G) (rangeL F G).length v W; rw [← e 4 (by simp)]; exact h'⟩, bx_k, trivial⟩
  ⟨fun f s W l m q r u a => opv rfl rfl (by simp [go_sem, a.e 7 k1_7, cb br1_0 l 0, cb br1_0 l 1, cb br1_0 l 2, cb br1_0 l 3, cb br1_0 l 4, cb br1_0 l 5, cb br1_0 l 6]) rfl,
  fun f s W l m q r u a => by have y := bwt fB1 l; exact opd (args := #[.agg #[.int .i64 b.tab, .slice a1 (b.panels.length) c1, .int .i64 b.height, .slice a2 (b.top.length) c2, .slice a3 (b.bottom.length) c3, .int .i64 b.slot, .bool b.isOpen]]) rfl rfl (by simp [go_sem, a.e 18 (m 0 rfl)]) (copy_ow _ _ _ _ _ _ b W (h1.below y (Nat.le_refl _)) (h2.below y (Nat.le_refl _)) (h3.below y (Nat.le_refl _)) hck) (fun e W' h => by obtain ⟨v, e1, h1, h2⟩ := h; exact ⟨v, e1, h2, (show OwBlk (upd s 1 W.heap.size 1) (b) v W' from by rw [upd_at]; exact h1)⟩),
  fun f s W l m q r u a => opm (a.v 1 k1_1),
  fun f s W l m q r u a => opm (a.v 2 k1_2),
  fun f s W l m q r u a => opd rfl rfl (by simp [go_sem, a.e 20 (m 2 rfl), a.e 21 (m 3 rfl)]) (ovP_ow hFG hne (aroundR_ov (flap) off 0 W (by omega) (by omega) (by omega) (by omega) (by decide) (by decide))) (fun e W' h => by obtain ⟨v, e1, h1, h2⟩ := h; exact ⟨v, e1, h2, (show OwI (upd s 4 W.heap.size 4) (rangeL F G) (rangeL F G).length v W' from by rw [upd_at]; exact h1)⟩),
  fun f s W l m q r u a => opb rfl rfl (by simp [go_sem]), trivial⟩ ?_
 intro f2 s2 W2 hB2 g2 hg2 z2
 have fB2 := hB2.f fB1
 have b2_0 := hB2.b br1_0
 have b2_1 := hB2.b br1_1
 obtain ⟨g1', c4', g2', c5', g3', c6', r2_1, q7', q8', q9', q10', q11', q12'⟩ := hB2.is 1
 have la2_1 := hB2.from' 1 (by decide)
 have lo2_1_o0 := q7'.lim
 have q13' := q7'.low (B' := w.heap.size) (Nat.le_trans fB1.size (la2_1))
 have lo2_1_o1 := q8'.lim
 have q14' := q8'.low (B' := w.heap.size) (Nat.le_trans fB1.size (la2_1))
 have lo2_1_o2 := q9'.lim
 have q15' := q9'.low (B' := w.heap.size) (Nat.le_trans fB1.size (la2_1))
 obtain ⟨g16', c17', r2_4, q18'⟩ := hB2.is 4
 have la2_4 := hB2.from' 4 (by decide)
 have lo2_4_o := q18'.lim
 have q19' := q18'.low (B' := w.heap.size) (Nat.le_trans fB1.size (la2_4))
 obtain ⟨r2_5, br2_5⟩ := hB2.is 5
 have lr2_5 := hB2.lr 5 br2_5
 have oo2_1_o0_5 := hB2.off 1 5 (by decide) (by decide) (by decide) lo2_1_o0.1 (fun W h => (OwBlk.lt h r2_1).1) (fun _ _ _ h => ltb h.2)
 have oo2_1_o1_5 := hB2.off 1 5 (by decide) (by decide) (by decide) lo2_1_o1.1 (fun W h => (OwBlk.lt h r2_1).2.1) (fun _ _ _ h => ltb h.2)
 have oo2_1_o2_5 := hB2.off 1 5 (by decide) (by decide) (by decide) lo2_1_o2.1 (fun W h => (OwBlk.lt h r2_1).2.2) (fun _ _ _ h => ltb h.2)
 have oo2_4_o_5 := hB2.off 4 5 (by decide) (by decide) (by decide) lo2_4_o.1 (fun W h => OwI.lt h r2_4) (fun _ _ _ h => ltb h.2)
 have ow2_4_o_1_o0 := hB2.two 4 1 (by decide) (by decide) (by decide) lo2_4_o.1 lo2_1_o0.1 (fun W h => OwI.lt h r2_4) (fun W h => (OwBlk.lt h r2_1).1)
 have ow2_4_o_1_o1 := hB2.two 4 1 (by decide) (by decide) (by decide) lo2_4_o.1 lo2_1_o1.1 (fun W h => OwI.lt h r2_4) (fun W h => (OwBlk.lt h r2_1).2.1)
 have ow2_4_o_1_o2 := hB2.two 4 1 (by decide) (by decide) (by decide) lo2_4_o.1 lo2_1_o2.1 (fun W h => OwI.lt h r2_4) (fun W h => (OwBlk.lt h r2_1).2.2)
 have k2_19 := kt hg2 19 r2_1
 have k2_22 := kt hg2 22 r2_4
 have k2_15 := kt hg2 15 r2_5
 obtain ⟨W3, hW3⟩ : ∃ W', W' = W2.setRow (s2 5) #[.int .i64 b.tab, .slice (some ⟨g1', 0, none⟩) (b.panels.length) c4', .int .i64 b.height, .slice (some ⟨g2', 0, none⟩) (b.top.length) c5', .slice (some ⟨g3', 0, none⟩) (b.bottom.length) c6', .int .i64 b.slot, .bool b.isOpen] := ⟨_, rfl⟩
 refine tsk (o := _) rfl ⟨rfl, rfl⟩ (run_seg hW3 (fr_ev k2_15) (fr_ev k2_19) br2_5 rfl rfl rfl rfl) ?_
 obtain ⟨fB3, nb3, ot3, z3⟩ := sgf hW3 fB2 br2_5 (by omega)
 clear hW3
 have b3_0 := ot3 _ _ (by omega) b2_0
 have b3_1 := ot3 _ _ (by omega) b2_1
 have q20' := q13'.other ot3 (by omega) z3
 have q21' := q14'.other ot3 (by omega) z3
 have q22' := q15'.other ot3 (by omega) z3
 have q23' := q19'.other ot3 (by omega) z3
 refine tail_value (o := _) rfl rfl rfl (v := .slice (some ⟨g16', 0, none⟩) ((rangeL F G).length) (c17')) (by simp [go_sem, frv 67 k2_22]) ?_
 generalize hg4 : upd g2 16 (.slice (some ⟨g16', 0, none⟩) ((rangeL F G).length) (c17')) = g4
 refine wpe ?_
 refine hK2 _ _ ?_
 refine wp_seq_k fun K3 hK3 => ?_
 refine rw_ 1 [(17, 0)] [[]] (rel [iI 0])
  ⟨fun f s W l m q r u a => opz, trivial⟩ ?_
 intro f5 s5 W5 hB5 g5 hg5 z5
 have fB5 := hB5.f fB3
 have b5_0 := hB5.b b3_0
 have b5_1 := hB5.b b3_1
 have b5_2 := hB5.b nb3
 have q24' := (q20'.below hB5.below)
 have q25' := (q21'.below hB5.below)
 have q26' := (q22'.below hB5.below)
 have q27' := (q23'.below hB5.below)
 have k5_3 := kt hg5 3 (ku hg4 3 (kt hg2 3 (kt hg1 3 k3)))
 have k5_4 := kt hg5 4 (ku hg4 4 (kt hg2 4 (kt hg1 4 k4)))
 have k5_6 := kt hg5 6 (ku hg4 6 (kt hg2 6 (kt hg1 6 k6)))
 have k5_12 := kt hg5 12 (ku hg4 12 (kt hg2 12 (kt hg1 12 r1_1)))
 have k5_14 := kt hg5 14 (ku hg4 14 (kt hg2 14 (kt hg1 14 (hB1.is 2))))
 have k5_15 := kt hg5 15 (ku hg4 15 k2_15)
 have k5_16 := kt hg5 16 (kt hg4 16 (upd_same _ _ _))
 have k5_17 := kt hg5 17 (hB5.is 0)
 refine wp_block ?_
 refine wp_loop_n (fun m_ a_ W_ => ∃ g_ : Nat → Value, a_ = fr 67 g_ ∧ (∃ i : Nat, ∃ z : Int, m_ = (rangeL F G).length - i ∧ g_ 3 = .int .i64 ((k : Int)) ∧ g_ 4 = .bool false ∧ g_ 6 = .int .i64 cal ∧ g_ 12 = .pointer (some ⟨(s1 1), 0, none⟩) ∧ g_ 14 = .bool false ∧ g_ 15 = .pointer (some ⟨(s2 5), 0, none⟩) ∧ g_ 16 = .slice (some ⟨g16', 0, none⟩) ((rangeL F G).length) (c17') ∧ g_ 17 = .int .i64 ((i : Int)) ∧ Below w.heap.size w W_ ∧ W5.heap.size ≤ W_.heap.size ∧ W_.heap[(s1 0)]? = some (.cells #[.int .i64 b.tab, .slice a1 (b.panels.length) c1, .int .i64 b.height, .slice a2 (b.top.length) c2, .slice a3 (b.bottom.length) c3, .int .i64 b.slot, .bool b.isOpen] 24 (0, 0)) ∧ W_.heap[(s1 1)]? = some (.cells #[.int .i64 vi.length.1, .int .i64 vi.length.2, .int .i64 vi.width.1, .int .i64 vi.width.2, .int .i64 vi.height.1, .int .i64 vi.height.2, .int .i64 vi.outer.1, .int .i64 vi.outer.2, .int .i64 vi.inner.1, .int .i64 vi.inner.2, .bool vi.isOpen] 43 (0, 0)) ∧ W_.heap[(s2 5)]? = some (.cells #[.int .i64 b.tab, .slice (some ⟨g1', 0, none⟩) (b.panels.length) c4', .int .i64 b.height, .slice (some ⟨g2', 0, none⟩) (b.top.length) c5', .slice (some ⟨g3', 0, none⟩) (b.bottom.length) c6', .int .i64 b.slot, .bool b.isOpen] 24 (0, 0)) ∧ OwnI w.heap.size (b.panels) g1' c4' W_ ∧ OwnI w.heap.size (b.top) g2' c5' W_ ∧ OwnI w.heap.size (rangeL F G) g16' c17' W_ ∧ OwnI w.heap.size (b.bottom.set k z) g3' c6' W_ ∧ (i ≤ (rangeL F G).length) ∧ (∀ j : Nat, j < i → gapF vi k p cal (F + (j : Int)) = false))) ⟨_, g5, rfl, 0, (b.bottom.getD k 0), rfl, k5_3, k5_4, k5_6, k5_12, k5_14, k5_15, k5_16, k5_17.trans (by rfl), fB5, Nat.le_refl _, b5_0, b5_1, b5_2, q24', q25', q27', (by rw [set_self]; exact q26'), (by omega), (fun j hj => absurd hj (Nat.not_lt_zero j))⟩ ?_
 rintro _ _ W_28 ⟨g_28, rfl, i, z, rfl, k_28_3, k_28_4, k_28_6, k_28_12, k_28_14, k_28_15, k_28_16, k_28_17, fB_28, z_28, b_28_0, b_28_1, b_28_2, q29', q30', q31', q32', lp0, lp1⟩
 refine wp_seq_k fun K5 hK5 => ?_
 refine rw_ 4 [(23, 0), (24, 1), (25, 2), (26, 3)] [[], [], [1], [0, 2]] (rel [iI ((i : Int)), is (.slice (some ⟨g16', 0, none⟩) ((rangeL F G).length) (c17')), iI (((rangeL F G).length : Int)), iB (decide ((i : Int) < ((rangeL F G).length : Int)))])
  ⟨fun f s W l m q r u a => opm (a.v 17 k_28_17),
  fun f s W l m q r u a => opm (a.v 16 k_28_16),
  fun f s W l m q r u a => opv rfl rfl (by simp [go_sem, a.e 24 (m 1 rfl)]) rfl,
  fun f s W l m q r u a => opv rfl rfl (by simp [go_sem, a.e 23 (m 0 rfl), a.e 25 (m 2 rfl)]) rfl, trivial⟩ ?_
 intro f6 s6 W6 hB6 g6 hg6 z6
 have fB6 := hB6.f fB_28
 have q33' := (q29'.below hB6.below)
 have q34' := (q30'.below hB6.below)
 have q35' := (q31'.below hB6.below)
 have q36' := (q32'.below hB6.below)
 have k6_4 := kt hg6 4 k_28_4
 have k6_26 := kt hg6 26 (hB6.is 3)
 refine wp_cond_split (t := decide ((i : Int) < ((rangeL F G).length : Int))) ((fr_eval rfl).trans k6_26) (fun hc7 => ?_) (fun hc7 => ?_)
 ·
  have hc7' := hc7; try simp only [ba] at hc7'
  have lix0 : i < (rangeL F G).length := by omega
  have lix := Nat.not_le.2 lix0
  have hxb : (rangeL F G).length = (G + 1 - F).toNat := rangeL_len F G
  refine wp_skip ?_
  refine hK5 _ _ ?_
  refine wp_seq_k fun K8 hK8 => ?_
  refine wp_block ?_
  refine wp_seq_k fun K9 hK9 => ?_
  refine rw_ 1 [(29, 0)] [[]] (rel [iB false])
   ⟨fun f s W l m q r u a => opm (a.v 4 k6_4), trivial⟩ ?_
  intro f7 s7 W7 hB7 g7 hg7 z7
  have b7_2 := hB7.b (hB6.b b_28_2)
  have q37' := (q33'.below hB7.below)
  have q38' := (q34'.below hB7.below)
  have q39' := (q35'.below hB7.below)
  have q40' := (q36'.below hB7.below)
  have k7_3 := kt hg7 3 (kt hg6 3 k_28_3)
  have k7_15 := kt hg7 15 (kt hg6 15 k_28_15)
  have k7_16 := kt hg7 16 (kt hg6 16 k_28_16)
  have k7_17 := kt hg7 17 (kt hg6 17 k_28_17)
  have k7_29 := kt hg7 29 (hB7.is 0)
  refine wp_cond_false ((fr_eval rfl).trans k7_29) ?_
  refine ry 8 [(38, 0), (39, 1), (40, 2), (41, 3), (42, 4), (43, 5), (44, 6), (45, 7)] [[], [0], [], [], [], [3, 4], [5], [1, 2], [0, 1, 2, 3, 4, 5, 6, 7]] (rel [is (.pointer (some ⟨(s2 5), 4, none⟩)), is (.slice (some ⟨g3', 0, none⟩) (b.bottom.length) c6'), iI ((k : Int)), is (.slice (some ⟨g16', 0, none⟩) ((rangeL F G).length) (c17')), iI ((i : Int)), is (.pointer (some ⟨g16', i, none⟩)), iI ((F + (i : Int))), is (.pointer (some ⟨g3', k, none⟩))])
   ⟨fun f s W l m q r u a => opv rfl rfl (by simp [go_sem, a.e 15 k7_15]) rfl,
  fun f s W l m q r u a => opv rfl rfl (by simp [go_sem, a.e 38 (m 0 rfl), cb b7_2 l 4]) rfl,
  fun f s W l m q r u a => opm (a.v 3 k7_3),
  fun f s W l m q r u a => opm (a.v 16 k7_16),
  fun f s W l m q r u a => opm (a.v 17 k7_17),
  fun f s W l m q r u a => opv rfl rfl (by simp [go_sem, a.e 41 (m 3 rfl), a.e 42 (m 4 rfl), lix]) rfl,
  fun f s W l m q r u a => by have u6_ : W.cell? ⟨g16', i, none⟩ = some (.int .i64 ((F + (i : Int)))) := ((OwnI.cell ((q39'.below l)) (i := i) (by omega)).trans (by rw [rangeL_get (by omega)])); exact opv rfl rfl (by simp [go_sem, a.e 43 (m 5 rfl), u6_]) rfl,
  fun f s W l m q r u a => opv rfl rfl (by simp [go_sem, a.e 39 (m 1 rfl), a.e 40 (m 2 rfl), lik]) rfl, trivial⟩ ?_
  intro f8 s8 W8 hB8 g8 hg8 z8
  have fB8 := hB8.f (hB7.f fB6)
  have b8_0 := hB8.b (hB7.b (hB6.b b_28_0))
  have b8_1 := hB8.b (hB7.b (hB6.b b_28_1))
  have b8_2 := hB8.b b7_2
  have q41' := (q37'.below hB8.below)
  have q42' := (q38'.below hB8.below)
  have q43' := (q39'.below hB8.below)
  have q44' := (q40'.below hB8.below)
  have k8_3 := kt hg8 3 k7_3
  have k8_4 := kt hg8 4 (kt hg7 4 k6_4)
  have k8_6 := kt hg8 6 (kt hg7 6 (kt hg6 6 k_28_6))
  have k8_12 := kt hg8 12 (kt hg7 12 (kt hg6 12 k_28_12))
  have k8_15 := kt hg8 15 k7_15
  have k8_44 := kt hg8 44 (hB8.is 6)
  have k8_45 := kt hg8 45 (hB8.is 7)
  obtain ⟨W9, st9, ow9, ot9, z9, fB9⟩ := storeI_tail (c := c6') (i := k) (x := (F + (i : Int))) (b.bottom.set k ((F + (i : Int)))) (by simp; omega) (List.set_set ..) fB8 q44'
  refine tsk (o := _) rfl ⟨rfl, rfl⟩ (st9 (fr_ev k8_45) (fr_ev k8_44)) ?_
  have b9_0 := ot9 _ _ (by omega) b8_0
  have b9_1 := ot9 _ _ (by omega) b8_1
  have b9_2 := ot9 _ _ (by omega) b8_2
  have q45' := q41'.other ot9 (by omega) z9
  have q46' := q42'.other ot9 (by omega) z9
  have q47' := q43'.other ot9 (by omega) z9
  refine wpe ?_
  refine hK9 _ _ ?_
  refine rx 21 [(46, 0), (47, 1), (48, 2), (49, 3), (50, 4), (51, 5), (52, 6), (53, 7), (54, 8), (55, 9), (56, 10), (57, 11), (58, 12), (59, 13), (60, 14), (61, 15), (62, 16), (63, 17), (64, 18), (65, 19), (66, 20)] [[], [0], [1], [1], [1], [1], [1], [1], [1], [8], [9], [9, 10], [9, 11], [12], [12], [12], [12, 15], [12], [12, 13, 14, 16, 17], [9, 12, 18], [9, 19]] (rel [iB false, iB false, gd (false) true (fun _ _ _ => True), gd (false) true (fun _ _ _ => True), gd (false) true (fun _ _ _ => True), gd (false) true (fun _ _ _ => True), gd (false) true (fun _ _ _ => True), gd (false) true (fun _ _ _ => True), iB false, iB false, iB false, iB true, iB true, is (.agg #[.int .i64 b.tab, .slice (some ⟨g1', 0, none⟩) (b.panels.length) c4', .int .i64 b.height, .slice (some ⟨g2', 0, none⟩) (b.top.length) c5', .slice (some ⟨g3', 0, none⟩) (b.bottom.length) c6', .int .i64 b.slot, .bool b.isOpen]), is (.agg #[.int .i64 vi.length.1, .int .i64 vi.length.2, .int .i64 vi.width.1, .int .i64 vi.width.2, .int .i64 vi.height.1, .int .i64 vi.height.2, .int .i64 vi.outer.1, .int .i64 vi.outer.2, .int .i64 vi.inner.1, .int .i64 vi.inner.2, .bool vi.isOpen]), iI ((k : Int)), iI (7 + (k : Int)), iI cal, iB (gapF vi k p cal (F + (i : Int))), iB (gapF vi k p cal (F + (i : Int))), iB (gapF vi k p cal (F + (i : Int)))])
   ⟨is_k, is_k, gdt_k, gdt_k, gdt_k, gdt_k, gdt_k, gdt_k, is_k, is_k, is_k, is_k, is_k, is_k, is_k, is_k, is_k, is_k, is_k, is_k, is_k, trivial⟩
   ⟨fun f s W l m q r u a => opm (a.v 4 k8_4),
  fun f s W l m q r u a => opm (a.v 46 (m 0 rfl)),
  fun f s W l m q r u a => gno (a.says (d := 47) rfl rfl (m 1 rfl)),
  fun f s W l m q r u a => gno (a.says (d := 47) rfl rfl (m 1 rfl)),
  fun f s W l m q r u a => gno (a.says (d := 47) rfl rfl (m 1 rfl)),
  fun f s W l m q r u a => gno (a.says (d := 47) rfl rfl (m 1 rfl)),
  fun f s W l m q r u a => gno (a.says (d := 47) rfl rfl (m 1 rfl)),
  fun f s W l m q r u a => gno (a.says (d := 47) rfl rfl (m 1 rfl)),
  fun f s W l m q r u a => opk (c := false) rfl rfl (fun _ => by simp [go_sem, a.e 47 (m 1 rfl)]) (fun h => absurd h (by decide)),
  fun f s W l m q r u a => opm (a.v 54 (m 8 rfl)),
  fun f s W l m q r u a => osure rfl rfl (a.says (d := 55) rfl rfl (m 9 rfl)) (gv (by simp [go_sem, a.e 4 k8_4]) rfl),
  fun f s W l m q r u a => osure rfl rfl (a.says (d := 55) rfl rfl (m 9 rfl)) (gv (by simp [go_sem, a.e 56 (m 10 rfl)]) rfl),
  fun f s W l m q r u a => osure rfl rfl (a.says (d := 55) rfl rfl (m 9 rfl)) (gv (by simp [go_sem, a.e 57 (m 11 rfl)]) rfl),
  fun f s W l m q r u a => osure rfl rfl (a.says (d := 58) rfl rfl (m 12 rfl)) (gv (by simp [go_sem, a.e 15 k8_15, cb b9_2 l 0, cb b9_2 l 1, cb b9_2 l 2, cb b9_2 l 3, cb b9_2 l 4, cb b9_2 l 5, cb b9_2 l 6]) rfl),
  fun f s W l m q r u a => osure rfl rfl (a.says (d := 58) rfl rfl (m 12 rfl)) (gv (by simp [go_sem, a.e 12 k8_12, cb b9_1 l 0, cb b9_1 l 1, cb b9_1 l 2, cb b9_1 l 3, cb b9_1 l 4, cb b9_1 l 5, cb b9_1 l 6, cb b9_1 l 7, cb b9_1 l 8, cb b9_1 l 9, cb b9_1 l 10]) rfl),
  fun f s W l m q r u a => osure rfl rfl (a.says (d := 58) rfl rfl (m 12 rfl)) (gv (by simp [go_sem, a.e 3 k8_3]) rfl),
  fun f s W l m q r u a => osure rfl rfl (a.says (d := 58) rfl rfl (m 12 rfl)) (gv (by simp [go_sem, a.e 61 (m 15 rfl), IntWalk.i64_in (7 + (k : Int)) (by omega)]) rfl),
  fun f s W l m q r u a => osure rfl rfl (a.says (d := 58) rfl rfl (m 12 rfl)) (gv (by simp [go_sem, a.e 6 k8_6]) rfl),
  fun f s W l m q r u a => osure rfl rfl (a.says (d := 58) rfl rfl (m 12 rfl)) (wp_called (args := #[.agg #[.int .i64 b.tab, .slice (some ⟨g1', 0, none⟩) (b.panels.length) c4', .int .i64 b.height, .slice (some ⟨g2', 0, none⟩) (b.top.length) c5', .slice (some ⟨g3', 0, none⟩) (b.bottom.length) c6', .int .i64 b.slot, .bool b.isOpen], .agg #[.int .i64 vi.length.1, .int .i64 vi.length.2, .int .i64 vi.width.1, .int .i64 vi.width.2, .int .i64 vi.height.1, .int .i64 vi.height.2, .int .i64 vi.outer.1, .int .i64 vi.outer.2, .int .i64 vi.inner.1, .int .i64 vi.inner.2, .bool vi.isOpen], .int .i64 (7 + (k : Int)), .int .i64 cal]) (by simp [go_sem, a.e 59 (m 13 rfl), a.e 60 (m 14 rfl), a.e 62 (m 16 rfl), a.e 63 (m 17 rfl)]) (holdsR_blk (b := setB b k (F + (i : Int))) vi (7 + k) (7 + (k : Int)) cal W ⟨_, _, _, _, _, _, _, _, _, rfl, (OwnI.iin (n := b.panels.length) ((q45'.below l)) rfl), (OwnI.iin (n := b.top.length) ((q46'.below l)) rfl), (OwnI.iin (n := b.bottom.length) ((ow9.below l)) (List.length_set ..))⟩ (setB_ok hck hk (by omega) (by omega)) hw gcl (by omega) (by omega)) ((fun e W' h => by have h1 := h.1; rw [hold_bot b vi hk _ cal hl3, hp] at h1; exact ⟨_, h1, h.2, rfl⟩))),
  fun f s W l m q r u a => osure rfl rfl (a.says (d := 55) rfl rfl (m 9 rfl)) (gk (c := true) (fun h => absurd h (by decide)) (fun _ => by simp [go_sem, a.e 58 (m 12 rfl), a.e 64 (m 18 rfl)])),
  fun f s W l m q r u a => opk (c := false) rfl rfl (fun _ => by simp [go_sem, a.e 55 (m 9 rfl), a.e 65 (m 19 rfl)]) (fun h => absurd h (by decide)), trivial⟩ ?_
  intro f10 s10 W10 hB10 g10 hg10 z10
  have fB10 := hB10.f fB9
  have q48' := (q45'.below hB10.below)
  have q49' := (q46'.below hB10.below)
  have q50' := (q47'.below hB10.below)
  have q51' := (ow9.below hB10.below)
  have k10_17 := kt hg10 17 (kt hg8 17 k7_17)
  have k10_66 := kt hg10 66 (hB10.is 20)
  refine wp_cond_split (t := gapF vi k p cal (F + (i : Int))) ((fr_eval rfl).trans k10_66) (fun hc13 => ?_) (fun hc13 => ?_)
  ·
   have hc13' := hc13; try simp only [ba] at hc13'
   refine rw_ 1 [(14, 0)] [[]] (rel [iB true])
    ⟨fun f s W l m q r u a => opz, trivial⟩ ?_
   intro f11 s11 W11 hB11 g11 hg11 z11
   have fB11 := hB11.f fB10
   have q52' := (q48'.below hB11.below)
   have q53' := (q49'.below hB11.below)
   have q54' := (q50'.below hB11.below)
   have q55' := (q51'.below hB11.below)
   have k11_14 := kt hg11 14 (hB11.is 0)
   refine wp_ret ?_
   refine inBlock_ret (then_ret (then_ret (inBlock_ret (then_ret ?_))))
   refine leave_one (N := 67) (.inr rfl) Tryz.results71 rfl k11_14 ?_
   exact ⟨by rw [gap_yes (i := i) hFG lix0 (by simpa using hc13)], fB11⟩
  ·
   have hc13' := hc13; try simp only [ba] at hc13'
   refine wp_skip ?_
   refine ibn ?_
   refine hK8 _ _ ?_
   refine ry 3 [(27, 0), (28, 1), (17, 2)] [[], [0], [0, 1]] (rel [iI ((i : Int)), iI ((i : Int) + 1), iI ((i : Int) + 1)])
    ⟨fun f s W l m q r u a => opm (a.v 17 ((r 2 17 rfl rfl).trans k10_17)),
  fun f s W l m q r u a => opv rfl rfl (by simp [go_sem, a.e 27 (m 0 rfl), IntWalk.i64_in ((i : Int) + 1) (by omega)]) rfl,
  fun f s W l m q r u a => opm (a.v 28 (m 1 rfl)), trivial⟩ ?_
   intro f12 s12 W12 hB12 g12 hg12 z12
   have fB12 := hB12.f fB10
   have b12_0 := hB12.b (hB10.b b9_0)
   have b12_1 := hB12.b (hB10.b b9_1)
   have b12_2 := hB12.b (hB10.b b9_2)
   have q56' := (q48'.below hB12.below)
   have q57' := (q49'.below hB12.below)
   have q58' := (q50'.below hB12.below)
   have q59' := (q51'.below hB12.below)
   refine wpe ?_
   have k12_3 := kt hg12 3 (kt hg10 3 k8_3)
   have k12_4 := kt hg12 4 (kt hg10 4 k8_4)
   have k12_6 := kt hg12 6 (kt hg10 6 k8_6)
   have k12_12 := kt hg12 12 (kt hg10 12 k8_12)
   have k12_14 := kt hg12 14 (kt hg10 14 (kt hg8 14 (kt hg7 14 (kt hg6 14 k_28_14))))
   have k12_15 := kt hg12 15 (kt hg10 15 k8_15)
   have k12_16 := kt hg12 16 (kt hg10 16 (kt hg8 16 k7_16))
   have k12_17 := kt hg12 17 (hB12.is 2)
   refine then_normal ?_
   exact ⟨_, by omega, g12, rfl, i + 1, (F + (i : Int)), rfl, k12_3, k12_4, k12_6, k12_12, k12_14, k12_15, k12_16, k12_17.trans (by go_num), fB12, (by omega), b12_0, b12_1, b12_2, q56', q57', q58', q59', (by omega), (nots_step (f := fun j => gapF vi k p cal (F + (j : Int))) lp1 (by simpa using hc13))⟩
 ·
  have hc7' := hc7; try simp only [ba] at hc7'
  refine wp_exit ?_
  refine then_exit ?_
  refine then_exit ?_
  refine inBlock_at ?_
  refine hK3 _ _ ?_
  refine rw_ 1 [(14, 0)] [[]] (rel [iB false])
   ⟨fun f s W l m q r u a => opz, trivial⟩ ?_
  intro f13 s13 W13 hB13 g13 hg13 z13
  have fB13 := hB13.f fB6
  have q60' := (q33'.below hB13.below)
  have q61' := (q34'.below hB13.below)
  have q62' := (q35'.below hB13.below)
  have q63' := (q36'.below hB13.below)
  have k13_14 := kt hg13 14 (hB13.is 0)
  refine wp_ret ?_
  refine leave_one (N := 67) (.inr rfl) Tryz.results71 rfl k13_14 ?_
  exact ⟨by rw [gap_no hFG fun j hj => lp1 j (by omega)], fB13⟩
theorem someR_t (a1 a2 a3 : Option Addr) (c1 c2 c3 : Nat) (b : Bl) (vi : Wi) (k : Nat) (p flap off cal F G : Int) (w : World) (h1 : Ii w a1 b.panels.length c1 b.panels) (h2 : Ii w a2 b.top.length c2 b.top) (h3 : Ii w a3 b.bottom.length c3 b.bottom) (hck : checkErr b = 0) (hw : WishIn vi) (hk : k < 2) (gfl : 0 ≤ flap ∧ flap ≤ 3000) (gof : 0 ≤ off ∧ off ≤ 5) (gcl : 0 ≤ cal ∧ cal ≤ 100000) (hFG : aroundL flap off 0 = rangeL F G) (gF : 0 ≤ F) (gG : G ≤ 3000) (gFG : F ≤ G) (hp : b.panels.getD (1 - k) 0 = p) (ho : b.isOpen = false) (hwo : vi.isOpen = false) :
  Calls Tryz.prog 71 #[.agg #[.int .i64 b.tab, .slice a1 (b.panels.length) c1, .int .i64 b.height, .slice a2 (b.top.length) c2, .slice a3 (b.bottom.length) c3, .int .i64 b.slot, .bool b.isOpen], .int .i64 flap, .int .i64 off, .int .i64 ((k : Int)), .bool true, .agg #[.int .i64 vi.length.1, .int .i64 vi.length.2, .int .i64 vi.width.1, .int .i64 vi.width.2, .int .i64 vi.height.1, .int .i64 vi.height.2, .int .i64 vi.outer.1, .int .i64 vi.outer.2, .int .i64 vi.inner.1, .int .i64 vi.inner.2, .bool vi.isOpen], .int .i64 cal] w (fun e w' => e = .returned (.bool (gapS vi k p flap off cal)) ∧ Below w.heap.size w w') := by
 obtain ⟨⟨hl1, hl2, hl3⟩, -⟩ := good_nums hck
 have hne : 0 < (rangeL F G).length := by rw [rangeL_len]; omega
 have lik := Nat.not_le.2 (show k < b.top.length by omega)
 refine calls_fr Tryz.func71 Tryz.ntmps71 rfl rfl fun g hg => ?_
 have k0 : g 0 = .agg #[.int .i64 b.tab, .slice a1 (b.panels.length) c1, .int .i64 b.height, .slice a2 (b.top.length) c2, .slice a3 (b.bottom.length) c3, .int .i64 b.slot, .bool b.isOpen] := hg 0
 have k1 : g 1 = .int .i64 flap := hg 1
 have k2 : g 2 = .int .i64 off := hg 2
 have k3 : g 3 = .int .i64 ((k : Int)) := hg 3
 have k4 : g 4 = .bool true := hg 4
 have k5 : g 5 = .agg #[.int .i64 vi.length.1, .int .i64 vi.length.2, .int .i64 vi.width.1, .int .i64 vi.width.2, .int .i64 vi.height.1, .int .i64 vi.height.2, .int .i64 vi.outer.1, .int .i64 vi.outer.2, .int .i64 vi.inner.1, .int .i64 vi.inner.2, .bool vi.isOpen] := hg 5
 have k6 : g 6 = .int .i64 cal := hg 6
 clear hg
 have fB0 : Below w.heap.size w w := Below.refl _ _
 refine rw_ 3 [(7, 0), (12, 1), (14, 2)] [[], [], []] (rel [bx 0 #[.int .i64 b.tab, .slice a1 (b.panels.length) c1, .int .i64 b.height, .slice a2 (b.top.length) c2, .slice a3 (b.bottom.length) c3, .int .i64 b.slot, .bool b.isOpen] 24, bx 1 #[.int .i64 vi.length.1, .int .i64 vi.length.2, .int .i64 vi.width.1, .int .i64 vi.width.2, .int .i64 vi.height.1, .int .i64 vi.height.2, .int .i64 vi.outer.1, .int .i64 vi.outer.2, .int .i64 vi.inner.1, .int .i64 vi.inner.2, .bool vi.isOpen] 43, iB false])
  ⟨fun f s W l m q r u a => opb rfl rfl (by simp [go_sem, a.e 0 k0]),
  fun f s W l m q r u a => opb rfl rfl (by simp [go_sem, a.e 5 k5]),
  fun f s W l m q r u a => opz, trivial⟩ ?_
 intro f1 s1 W1 hB1 g1 hg1 z1
 have fB1 := hB1.f fB0
 obtain ⟨r1_0, br1_0⟩ := hB1.is 0
 have lr1_0 := hB1.lr 0 br1_0
 obtain ⟨r1_1, br1_1⟩ := hB1.is 1
 have lr1_1 := hB1.lr 1 br1_1
 have ne1_0_1 := hB1.nb 0 1
 have k1_1 := kt hg1 1 k1
 have k1_2 := kt hg1 2 k2
 have k1_7 := kt hg1 7 r1_0
 refine wp_seq_k fun K2 hK2 => ?_
 refine rz 6 [(18, 0), (19, 1), (20, 2), (21, 3), (22, 4), (15, 5), (16, 7)] [[], [0], [], [], [2, 3], [], [0, 1, 2, 3, 4, 5], [0, 1, 2, 3, 4, 5, 6]] (rel [is (.agg #[.int .i64 b.tab, .slice a1 (b.panels.length) c1, .int .i64 b.height, .slice a2 (b.top.length) c2, .slice a3 (b.bottom.length) c3, .int .i64 b.slot, .bool b.isOpen]), fun v s W => OwBlk (s 1) (b) v W, iI flap, iI off, fun v s W => OwI (s 4) (rangeL F G) (rangeL F G).length v W, bx 5 #[.int .i64 0, .slice none 0 0, .int .i64 0, .slice none 0 0, .slice none 0 0, .int .i64 0, .bool false] 24])
  ⟨is_k, ⟨fun v k W W' hb h => h.below hb, fun v s s' W e h => by have h' : OwBlk (s 1) (b) v W := h; show OwBlk (s' 1) (b) v W; rw [← e 1 (by simp)]; exact h'⟩, is_k, is_k, ⟨fun v k W W' hb h => h.below hb, fun v s s' W e h => by have h' : OwI (s 4) (rangeL F G) (rangeL F G).length v W := h; show OwI (s' 4) (rangeL F G) (rangeL F G).length v W; rw [← e 4 (by simp)]; exact h'⟩, bx_k, trivial⟩
  ⟨fun f s W l m q r u a => opv rfl rfl (by simp [go_sem, a.e 7 k1_7, cb br1_0 l 0, cb br1_0 l 1, cb br1_0 l 2, cb br1_0 l 3, cb br1_0 l 4, cb br1_0 l 5, cb br1_0 l 6]) rfl,
  fun f s W l m q r u a => by have y := bwt fB1 l; exact opd (args := #[.agg #[.int .i64 b.tab, .slice a1 (b.panels.length) c1, .int .i64 b.height, .slice a2 (b.top.length) c2, .slice a3 (b.bottom.length) c3, .int .i64 b.slot, .bool b.isOpen]]) rfl rfl (by simp [go_sem, a.e 18 (m 0 rfl)]) (copy_ow _ _ _ _ _ _ b W (h1.below y (Nat.le_refl _)) (h2.below y (Nat.le_refl _)) (h3.below y (Nat.le_refl _)) hck) (fun e W' h => by obtain ⟨v, e1, h1, h2⟩ := h; exact ⟨v, e1, h2, (show OwBlk (upd s 1 W.heap.size 1) (b) v W' from by rw [upd_at]; exact h1)⟩),
  fun f s W l m q r u a => opm (a.v 1 k1_1),
  fun f s W l m q r u a => opm (a.v 2 k1_2),
  fun f s W l m q r u a => opd rfl rfl (by simp [go_sem, a.e 20 (m 2 rfl), a.e 21 (m 3 rfl)]) (ovP_ow hFG hne (aroundR_ov (flap) off 0 W (by omega) (by omega) (by omega) (by omega) (by decide) (by decide))) (fun e W' h => by obtain ⟨v, e1, h1, h2⟩ := h; exact ⟨v, e1, h2, (show OwI (upd s 4 W.heap.size 4) (rangeL F G) (rangeL F G).length v W' from by rw [upd_at]; exact h1)⟩),
  fun f s W l m q r u a => opb rfl rfl (by simp [go_sem]), trivial⟩ ?_
 intro f2 s2 W2 hB2 g2 hg2 z2
 have fB2 := hB2.f fB1
 have b2_0 := hB2.b br1_0
 have b2_1 := hB2.b br1_1
 obtain ⟨g64', c67', g65', c68', g66', c69', r2_1, q70', q71', q72', q73', q74', q75'⟩ := hB2.is 1
 have la2_1 := hB2.from' 1 (by decide)
 have lo2_1_o0 := q70'.lim
 have q76' := q70'.low (B' := w.heap.size) (Nat.le_trans fB1.size (la2_1))
 have lo2_1_o1 := q71'.lim
 have q77' := q71'.low (B' := w.heap.size) (Nat.le_trans fB1.size (la2_1))
 have lo2_1_o2 := q72'.lim
 have q78' := q72'.low (B' := w.heap.size) (Nat.le_trans fB1.size (la2_1))
 obtain ⟨g79', c80', r2_4, q81'⟩ := hB2.is 4
 have la2_4 := hB2.from' 4 (by decide)
 have lo2_4_o := q81'.lim
 have q82' := q81'.low (B' := w.heap.size) (Nat.le_trans fB1.size (la2_4))
 obtain ⟨r2_5, br2_5⟩ := hB2.is 5
 have lr2_5 := hB2.lr 5 br2_5
 have oo2_1_o0_5 := hB2.off 1 5 (by decide) (by decide) (by decide) lo2_1_o0.1 (fun W h => (OwBlk.lt h r2_1).1) (fun _ _ _ h => ltb h.2)
 have oo2_1_o1_5 := hB2.off 1 5 (by decide) (by decide) (by decide) lo2_1_o1.1 (fun W h => (OwBlk.lt h r2_1).2.1) (fun _ _ _ h => ltb h.2)
 have oo2_1_o2_5 := hB2.off 1 5 (by decide) (by decide) (by decide) lo2_1_o2.1 (fun W h => (OwBlk.lt h r2_1).2.2) (fun _ _ _ h => ltb h.2)
 have oo2_4_o_5 := hB2.off 4 5 (by decide) (by decide) (by decide) lo2_4_o.1 (fun W h => OwI.lt h r2_4) (fun _ _ _ h => ltb h.2)
 have ow2_4_o_1_o0 := hB2.two 4 1 (by decide) (by decide) (by decide) lo2_4_o.1 lo2_1_o0.1 (fun W h => OwI.lt h r2_4) (fun W h => (OwBlk.lt h r2_1).1)
 have ow2_4_o_1_o1 := hB2.two 4 1 (by decide) (by decide) (by decide) lo2_4_o.1 lo2_1_o1.1 (fun W h => OwI.lt h r2_4) (fun W h => (OwBlk.lt h r2_1).2.1)
 have ow2_4_o_1_o2 := hB2.two 4 1 (by decide) (by decide) (by decide) lo2_4_o.1 lo2_1_o2.1 (fun W h => OwI.lt h r2_4) (fun W h => (OwBlk.lt h r2_1).2.2)
 have k2_19 := kt hg2 19 r2_1
 have k2_22 := kt hg2 22 r2_4
 have k2_15 := kt hg2 15 r2_5
 obtain ⟨W3, hW3⟩ : ∃ W', W' = W2.setRow (s2 5) #[.int .i64 b.tab, .slice (some ⟨g64', 0, none⟩) (b.panels.length) c67', .int .i64 b.height, .slice (some ⟨g65', 0, none⟩) (b.top.length) c68', .slice (some ⟨g66', 0, none⟩) (b.bottom.length) c69', .int .i64 b.slot, .bool b.isOpen] := ⟨_, rfl⟩
 refine tsk (o := _) rfl ⟨rfl, rfl⟩ (run_seg hW3 (fr_ev k2_15) (fr_ev k2_19) br2_5 rfl rfl rfl rfl) ?_
 obtain ⟨fB3, nb3, ot3, z3⟩ := sgf hW3 fB2 br2_5 (by omega)
 clear hW3
 have b3_0 := ot3 _ _ (by omega) b2_0
 have b3_1 := ot3 _ _ (by omega) b2_1
 have q83' := q76'.other ot3 (by omega) z3
 have q84' := q77'.other ot3 (by omega) z3
 have q85' := q78'.other ot3 (by omega) z3
 have q86' := q82'.other ot3 (by omega) z3
 refine tail_value (o := _) rfl rfl rfl (v := .slice (some ⟨g79', 0, none⟩) ((rangeL F G).length) (c80')) (by simp [go_sem, frv 67 k2_22]) ?_
 generalize hg4 : upd g2 16 (.slice (some ⟨g79', 0, none⟩) ((rangeL F G).length) (c80')) = g4
 refine wpe ?_
 refine hK2 _ _ ?_
 refine wp_seq_k fun K3 hK3 => ?_
 refine rw_ 1 [(17, 0)] [[]] (rel [iI 0])
  ⟨fun f s W l m q r u a => opz, trivial⟩ ?_
 intro f5 s5 W5 hB5 g5 hg5 z5
 have fB5 := hB5.f fB3
 have b5_0 := hB5.b b3_0
 have b5_1 := hB5.b b3_1
 have b5_2 := hB5.b nb3
 have q87' := (q83'.below hB5.below)
 have q88' := (q84'.below hB5.below)
 have q89' := (q85'.below hB5.below)
 have q90' := (q86'.below hB5.below)
 have k5_3 := kt hg5 3 (ku hg4 3 (kt hg2 3 (kt hg1 3 k3)))
 have k5_4 := kt hg5 4 (ku hg4 4 (kt hg2 4 (kt hg1 4 k4)))
 have k5_6 := kt hg5 6 (ku hg4 6 (kt hg2 6 (kt hg1 6 k6)))
 have k5_12 := kt hg5 12 (ku hg4 12 (kt hg2 12 (kt hg1 12 r1_1)))
 have k5_14 := kt hg5 14 (ku hg4 14 (kt hg2 14 (kt hg1 14 (hB1.is 2))))
 have k5_15 := kt hg5 15 (ku hg4 15 k2_15)
 have k5_16 := kt hg5 16 (kt hg4 16 (upd_same _ _ _))
 have k5_17 := kt hg5 17 (hB5.is 0)
 refine wp_block ?_
 refine wp_loop_n (fun m_ a_ W_ => ∃ g_ : Nat → Value, a_ = fr 67 g_ ∧ (∃ i : Nat, ∃ z : Int, m_ = (rangeL F G).length - i ∧ g_ 3 = .int .i64 ((k : Int)) ∧ g_ 4 = .bool true ∧ g_ 6 = .int .i64 cal ∧ g_ 12 = .pointer (some ⟨(s1 1), 0, none⟩) ∧ g_ 14 = .bool false ∧ g_ 15 = .pointer (some ⟨(s2 5), 0, none⟩) ∧ g_ 16 = .slice (some ⟨g79', 0, none⟩) ((rangeL F G).length) (c80') ∧ g_ 17 = .int .i64 ((i : Int)) ∧ Below w.heap.size w W_ ∧ W5.heap.size ≤ W_.heap.size ∧ W_.heap[(s1 0)]? = some (.cells #[.int .i64 b.tab, .slice a1 (b.panels.length) c1, .int .i64 b.height, .slice a2 (b.top.length) c2, .slice a3 (b.bottom.length) c3, .int .i64 b.slot, .bool b.isOpen] 24 (0, 0)) ∧ W_.heap[(s1 1)]? = some (.cells #[.int .i64 vi.length.1, .int .i64 vi.length.2, .int .i64 vi.width.1, .int .i64 vi.width.2, .int .i64 vi.height.1, .int .i64 vi.height.2, .int .i64 vi.outer.1, .int .i64 vi.outer.2, .int .i64 vi.inner.1, .int .i64 vi.inner.2, .bool vi.isOpen] 43 (0, 0)) ∧ W_.heap[(s2 5)]? = some (.cells #[.int .i64 b.tab, .slice (some ⟨g64', 0, none⟩) (b.panels.length) c67', .int .i64 b.height, .slice (some ⟨g65', 0, none⟩) (b.top.length) c68', .slice (some ⟨g66', 0, none⟩) (b.bottom.length) c69', .int .i64 b.slot, .bool b.isOpen] 24 (0, 0)) ∧ OwnI w.heap.size (b.panels) g64' c67' W_ ∧ OwnI w.heap.size (b.bottom) g66' c69' W_ ∧ OwnI w.heap.size (rangeL F G) g79' c80' W_ ∧ OwnI w.heap.size (b.top.set k z) g65' c68' W_ ∧ (i ≤ (rangeL F G).length) ∧ (∀ j : Nat, j < i → gapF vi k p cal (F + (j : Int)) = false))) ⟨_, g5, rfl, 0, (b.top.getD k 0), rfl, k5_3, k5_4, k5_6, k5_12, k5_14, k5_15, k5_16, k5_17.trans (by rfl), fB5, Nat.le_refl _, b5_0, b5_1, b5_2, q87', q89', q90', (by rw [set_self]; exact q88'), (by omega), (fun j hj => absurd hj (Nat.not_lt_zero j))⟩ ?_
 rintro _ _ W_91 ⟨g_91, rfl, i, z, rfl, k_91_3, k_91_4, k_91_6, k_91_12, k_91_14, k_91_15, k_91_16, k_91_17, fB_91, z_91, b_91_0, b_91_1, b_91_2, q92', q93', q94', q95', lp0, lp1⟩
 refine wp_seq_k fun K5 hK5 => ?_
 refine rw_ 4 [(23, 0), (24, 1), (25, 2), (26, 3)] [[], [], [1], [0, 2]] (rel [iI ((i : Int)), is (.slice (some ⟨g79', 0, none⟩) ((rangeL F G).length) (c80')), iI (((rangeL F G).length : Int)), iB (decide ((i : Int) < ((rangeL F G).length : Int)))])
  ⟨fun f s W l m q r u a => opm (a.v 17 k_91_17),
  fun f s W l m q r u a => opm (a.v 16 k_91_16),
  fun f s W l m q r u a => opv rfl rfl (by simp [go_sem, a.e 24 (m 1 rfl)]) rfl,
  fun f s W l m q r u a => opv rfl rfl (by simp [go_sem, a.e 23 (m 0 rfl), a.e 25 (m 2 rfl)]) rfl, trivial⟩ ?_
 intro f6 s6 W6 hB6 g6 hg6 z6
 have fB6 := hB6.f fB_91
 have q96' := (q92'.below hB6.below)
 have q97' := (q93'.below hB6.below)
 have q98' := (q94'.below hB6.below)
 have q99' := (q95'.below hB6.below)
 have k6_4 := kt hg6 4 k_91_4
 have k6_26 := kt hg6 26 (hB6.is 3)
 refine wp_cond_split (t := decide ((i : Int) < ((rangeL F G).length : Int))) ((fr_eval rfl).trans k6_26) (fun hc7 => ?_) (fun hc7 => ?_)
 ·
  have hc7' := hc7; try simp only [ba] at hc7'
  have lix0 : i < (rangeL F G).length := by omega
  have lix := Nat.not_le.2 lix0
  have hxb : (rangeL F G).length = (G + 1 - F).toNat := rangeL_len F G
  refine wp_skip ?_
  refine hK5 _ _ ?_
  refine wp_seq_k fun K8 hK8 => ?_
  refine wp_block ?_
  refine wp_seq_k fun K9 hK9 => ?_
  refine rw_ 1 [(29, 0)] [[]] (rel [iB true])
   ⟨fun f s W l m q r u a => opm (a.v 4 k6_4), trivial⟩ ?_
  intro f7 s7 W7 hB7 g7 hg7 z7
  have b7_2 := hB7.b (hB6.b b_91_2)
  have q100' := (q96'.below hB7.below)
  have q101' := (q97'.below hB7.below)
  have q102' := (q98'.below hB7.below)
  have q103' := (q99'.below hB7.below)
  have k7_3 := kt hg7 3 (kt hg6 3 k_91_3)
  have k7_15 := kt hg7 15 (kt hg6 15 k_91_15)
  have k7_16 := kt hg7 16 (kt hg6 16 k_91_16)
  have k7_17 := kt hg7 17 (kt hg6 17 k_91_17)
  have k7_29 := kt hg7 29 (hB7.is 0)
  refine wp_cond_true ((fr_eval rfl).trans k7_29) ?_
  refine ry 8 [(30, 0), (31, 1), (32, 2), (33, 3), (34, 4), (35, 5), (36, 6), (37, 7)] [[], [0], [], [], [], [3, 4], [5], [1, 2], [0, 1, 2, 3, 4, 5, 6, 7]] (rel [is (.pointer (some ⟨(s2 5), 3, none⟩)), is (.slice (some ⟨g65', 0, none⟩) (b.top.length) c68'), iI ((k : Int)), is (.slice (some ⟨g79', 0, none⟩) ((rangeL F G).length) (c80')), iI ((i : Int)), is (.pointer (some ⟨g79', i, none⟩)), iI ((F + (i : Int))), is (.pointer (some ⟨g65', k, none⟩))])
   ⟨fun f s W l m q r u a => opv rfl rfl (by simp [go_sem, a.e 15 k7_15]) rfl,
  fun f s W l m q r u a => opv rfl rfl (by simp [go_sem, a.e 30 (m 0 rfl), cb b7_2 l 3]) rfl,
  fun f s W l m q r u a => opm (a.v 3 k7_3),
  fun f s W l m q r u a => opm (a.v 16 k7_16),
  fun f s W l m q r u a => opm (a.v 17 k7_17),
  fun f s W l m q r u a => opv rfl rfl (by simp [go_sem, a.e 33 (m 3 rfl), a.e 34 (m 4 rfl), lix]) rfl,
  fun f s W l m q r u a => by have u6_ : W.cell? ⟨g79', i, none⟩ = some (.int .i64 ((F + (i : Int)))) := ((OwnI.cell ((q102'.below l)) (i := i) (by omega)).trans (by rw [rangeL_get (by omega)])); exact opv rfl rfl (by simp [go_sem, a.e 35 (m 5 rfl), u6_]) rfl,
  fun f s W l m q r u a => opv rfl rfl (by simp [go_sem, a.e 31 (m 1 rfl), a.e 32 (m 2 rfl), lik]) rfl, trivial⟩ ?_
  intro f8 s8 W8 hB8 g8 hg8 z8
  have fB8 := hB8.f (hB7.f fB6)
  have b8_0 := hB8.b (hB7.b (hB6.b b_91_0))
  have b8_1 := hB8.b (hB7.b (hB6.b b_91_1))
  have b8_2 := hB8.b b7_2
  have q104' := (q100'.below hB8.below)
  have q105' := (q101'.below hB8.below)
  have q106' := (q102'.below hB8.below)
  have q107' := (q103'.below hB8.below)
  have k8_3 := kt hg8 3 k7_3
  have k8_4 := kt hg8 4 (kt hg7 4 k6_4)
  have k8_6 := kt hg8 6 (kt hg7 6 (kt hg6 6 k_91_6))
  have k8_12 := kt hg8 12 (kt hg7 12 (kt hg6 12 k_91_12))
  have k8_15 := kt hg8 15 k7_15
  have k8_36 := kt hg8 36 (hB8.is 6)
  have k8_37 := kt hg8 37 (hB8.is 7)
  obtain ⟨W9, st9, ow9, ot9, z9, fB9⟩ := storeI_tail (c := c68') (i := k) (x := (F + (i : Int))) (b.top.set k ((F + (i : Int)))) (by simp; omega) (List.set_set ..) fB8 q107'
  refine tsk (o := _) rfl ⟨rfl, rfl⟩ (st9 (fr_ev k8_37) (fr_ev k8_36)) ?_
  have b9_0 := ot9 _ _ (by omega) b8_0
  have b9_1 := ot9 _ _ (by omega) b8_1
  have b9_2 := ot9 _ _ (by omega) b8_2
  have q108' := q104'.other ot9 (by omega) z9
  have q109' := q105'.other ot9 (by omega) z9
  have q110' := q106'.other ot9 (by omega) z9
  refine wpe ?_
  refine hK9 _ _ ?_
  refine rx 21 [(46, 0), (47, 1), (48, 2), (49, 3), (50, 4), (51, 5), (52, 6), (53, 7), (54, 8), (55, 9), (56, 10), (57, 11), (58, 12), (59, 13), (60, 14), (61, 15), (62, 16), (63, 17), (64, 18), (65, 19), (66, 20)] [[], [0], [1], [1], [1], [1, 4], [1], [1, 2, 3, 5, 6], [1, 7], [8], [9], [9, 10], [9, 11], [12], [12], [12], [12], [12], [12], [9, 12], [9, 19]] (rel [iB true, iB true, is (.agg #[.int .i64 b.tab, .slice (some ⟨g64', 0, none⟩) (b.panels.length) c67', .int .i64 b.height, .slice (some ⟨g65', 0, none⟩) (b.top.length) c68', .slice (some ⟨g66', 0, none⟩) (b.bottom.length) c69', .int .i64 b.slot, .bool b.isOpen]), is (.agg #[.int .i64 vi.length.1, .int .i64 vi.length.2, .int .i64 vi.width.1, .int .i64 vi.width.2, .int .i64 vi.height.1, .int .i64 vi.height.2, .int .i64 vi.outer.1, .int .i64 vi.outer.2, .int .i64 vi.inner.1, .int .i64 vi.inner.2, .bool vi.isOpen]), iI ((k : Int)), iI (5 + (k : Int)), iI cal, iB (gapF vi k p cal (F + (i : Int))), iB (gapF vi k p cal (F + (i : Int))), iB (gapF vi k p cal (F + (i : Int))), gd (gapF vi k p cal (F + (i : Int))) false (iB true), gd (gapF vi k p cal (F + (i : Int))) false (iB false), gd (gapF vi k p cal (F + (i : Int))) false (iB false), gd (gapF vi k p cal (F + (i : Int))) false (gd (false) true (fun _ _ _ => True)), gd (gapF vi k p cal (F + (i : Int))) false (gd (false) true (fun _ _ _ => True)), gd (gapF vi k p cal (F + (i : Int))) false (gd (false) true (fun _ _ _ => True)), gd (gapF vi k p cal (F + (i : Int))) false (gd (false) true (fun _ _ _ => True)), gd (gapF vi k p cal (F + (i : Int))) false (gd (false) true (fun _ _ _ => True)), gd (gapF vi k p cal (F + (i : Int))) false (gd (false) true (fun _ _ _ => True)), gd (gapF vi k p cal (F + (i : Int))) false (iB false), iB (gapF vi k p cal (F + (i : Int)))])
   ⟨is_k, is_k, is_k, is_k, is_k, is_k, is_k, is_k, is_k, is_k, gd_k (is_k), gd_k (is_k), gd_k (is_k), gd_k (gdt_k), gd_k (gdt_k), gd_k (gdt_k), gd_k (gdt_k), gd_k (gdt_k), gd_k (gdt_k), gd_k (is_k), is_k, trivial⟩
   ⟨fun f s W l m q r u a => opm (a.v 4 k8_4),
  fun f s W l m q r u a => opm (a.v 46 (m 0 rfl)),
  fun f s W l m q r u a => osure rfl rfl (a.says (d := 47) rfl rfl (m 1 rfl)) (gv (by simp [go_sem, a.e 15 k8_15, cb b9_2 l 0, cb b9_2 l 1, cb b9_2 l 2, cb b9_2 l 3, cb b9_2 l 4, cb b9_2 l 5, cb b9_2 l 6]) rfl),
  fun f s W l m q r u a => osure rfl rfl (a.says (d := 47) rfl rfl (m 1 rfl)) (gv (by simp [go_sem, a.e 12 k8_12, cb b9_1 l 0, cb b9_1 l 1, cb b9_1 l 2, cb b9_1 l 3, cb b9_1 l 4, cb b9_1 l 5, cb b9_1 l 6, cb b9_1 l 7, cb b9_1 l 8, cb b9_1 l 9, cb b9_1 l 10]) rfl),
  fun f s W l m q r u a => osure rfl rfl (a.says (d := 47) rfl rfl (m 1 rfl)) (gv (by simp [go_sem, a.e 3 k8_3]) rfl),
  fun f s W l m q r u a => osure rfl rfl (a.says (d := 47) rfl rfl (m 1 rfl)) (gv (by simp [go_sem, a.e 50 (m 4 rfl), IntWalk.i64_in (5 + (k : Int)) (by omega)]) rfl),
  fun f s W l m q r u a => osure rfl rfl (a.says (d := 47) rfl rfl (m 1 rfl)) (gv (by simp [go_sem, a.e 6 k8_6]) rfl),
  fun f s W l m q r u a => osure rfl rfl (a.says (d := 47) rfl rfl (m 1 rfl)) (wp_called (args := #[.agg #[.int .i64 b.tab, .slice (some ⟨g64', 0, none⟩) (b.panels.length) c67', .int .i64 b.height, .slice (some ⟨g65', 0, none⟩) (b.top.length) c68', .slice (some ⟨g66', 0, none⟩) (b.bottom.length) c69', .int .i64 b.slot, .bool b.isOpen], .agg #[.int .i64 vi.length.1, .int .i64 vi.length.2, .int .i64 vi.width.1, .int .i64 vi.width.2, .int .i64 vi.height.1, .int .i64 vi.height.2, .int .i64 vi.outer.1, .int .i64 vi.outer.2, .int .i64 vi.inner.1, .int .i64 vi.inner.2, .bool vi.isOpen], .int .i64 (5 + (k : Int)), .int .i64 cal]) (by simp [go_sem, a.e 48 (m 2 rfl), a.e 49 (m 3 rfl), a.e 51 (m 5 rfl), a.e 52 (m 6 rfl)]) (holdsR_blk (b := setT b k (F + (i : Int))) vi (5 + k) (5 + (k : Int)) cal W ⟨_, _, _, _, _, _, _, _, _, rfl, (OwnI.iin (n := b.panels.length) ((q108'.below l)) rfl), (OwnI.iin (n := b.top.length) ((ow9.below l)) (List.length_set ..)), (OwnI.iin (n := b.bottom.length) ((q109'.below l)) rfl)⟩ (setT_ok hck hk (by omega) (by omega) ho) hw gcl (by omega) (by omega)) ((fun e W' h => by have h1 := h.1; rw [hold_top b vi hk _ cal hl2 ho hwo, hp] at h1; exact ⟨_, h1, h.2, rfl⟩))),
  fun f s W l m q r u a => opk (c := true) rfl rfl (fun h => absurd h (by decide)) (fun _ => by simp [go_sem, a.e 47 (m 1 rfl), a.e 53 (m 7 rfl)]),
  fun f s W l m q r u a => opm (a.v 54 (m 8 rfl)),
  fun f s W l m q r u a => gdo rfl rfl (a.says (d := 55) rfl rfl (m 9 rfl)) fun hgd0 => gv (by simp [go_sem, a.e 4 k8_4]) rfl,
  fun f s W l m q r u a => gdo rfl rfl (a.says (d := 55) rfl rfl (m 9 rfl)) fun hgd0 => gv (by simp [go_sem, a.e 56 ((m 10 rfl).1 hgd0)]) rfl,
  fun f s W l m q r u a => gdo rfl rfl (a.says (d := 55) rfl rfl (m 9 rfl)) fun hgd0 => gv (by simp [go_sem, a.e 57 ((m 11 rfl).1 hgd0)]) rfl,
  fun f s W l m q r u a => gdo2 (s := upd s 13 W.heap.size) rfl rfl a (d := 58) rfl rfl (m 12 rfl) fun _ h2 => absurd h2 (by decide),
  fun f s W l m q r u a => gdo2 (s := upd s 14 W.heap.size) rfl rfl a (d := 58) rfl rfl (m 12 rfl) fun _ h2 => absurd h2 (by decide),
  fun f s W l m q r u a => gdo2 (s := upd s 15 W.heap.size) rfl rfl a (d := 58) rfl rfl (m 12 rfl) fun _ h2 => absurd h2 (by decide),
  fun f s W l m q r u a => gdo2 (s := upd s 16 W.heap.size) rfl rfl a (d := 58) rfl rfl (m 12 rfl) fun _ h2 => absurd h2 (by decide),
  fun f s W l m q r u a => gdo2 (s := upd s 17 W.heap.size) rfl rfl a (d := 58) rfl rfl (m 12 rfl) fun _ h2 => absurd h2 (by decide),
  fun f s W l m q r u a => gdo2 (s := upd s 18 W.heap.size) rfl rfl a (d := 58) rfl rfl (m 12 rfl) fun _ h2 => absurd h2 (by decide),
  fun f s W l m q r u a => gdo rfl rfl (a.says (d := 55) rfl rfl (m 9 rfl)) fun hgd0 => gk (c := false) (fun _ => by simp [go_sem, a.e 58 ((m 12 rfl).1 hgd0)]) (fun h => absurd h (by decide)),
  fun f s W l m q r u a => opk (c := gapF vi k p cal (F + (i : Int))) rfl rfl (fun hpk => by simp [go_sem, hpk, a.e 55 (m 9 rfl), a.e 65 ((m 19 rfl).1 hpk)]) (fun hpk => by simp [go_sem, hpk, a.e 55 (m 9 rfl)]), trivial⟩ ?_
  intro f10 s10 W10 hB10 g10 hg10 z10
  have fB10 := hB10.f fB9
  have q111' := (q108'.below hB10.below)
  have q112' := (q109'.below hB10.below)
  have q113' := (q110'.below hB10.below)
  have q114' := (ow9.below hB10.below)
  have k10_17 := kt hg10 17 (kt hg8 17 k7_17)
  have k10_66 := kt hg10 66 (hB10.is 20)
  refine wp_cond_split (t := gapF vi k p cal (F + (i : Int))) ((fr_eval rfl).trans k10_66) (fun hc13 => ?_) (fun hc13 => ?_)
  ·
   have hc13' := hc13; try simp only [ba] at hc13'
   refine rw_ 1 [(14, 0)] [[]] (rel [iB true])
    ⟨fun f s W l m q r u a => opz, trivial⟩ ?_
   intro f11 s11 W11 hB11 g11 hg11 z11
   have fB11 := hB11.f fB10
   have q115' := (q111'.below hB11.below)
   have q116' := (q112'.below hB11.below)
   have q117' := (q113'.below hB11.below)
   have q118' := (q114'.below hB11.below)
   have k11_14 := kt hg11 14 (hB11.is 0)
   refine wp_ret ?_
   refine inBlock_ret (then_ret (then_ret (inBlock_ret (then_ret ?_))))
   refine leave_one (N := 67) (.inr rfl) Tryz.results71 rfl k11_14 ?_
   exact ⟨by rw [gap_yes (i := i) hFG lix0 (by simpa using hc13)], fB11⟩
  ·
   have hc13' := hc13; try simp only [ba] at hc13'
   refine wp_skip ?_
   refine ibn ?_
   refine hK8 _ _ ?_
   refine ry 3 [(27, 0), (28, 1), (17, 2)] [[], [0], [0, 1]] (rel [iI ((i : Int)), iI ((i : Int) + 1), iI ((i : Int) + 1)])
    ⟨fun f s W l m q r u a => opm (a.v 17 ((r 2 17 rfl rfl).trans k10_17)),
  fun f s W l m q r u a => opv rfl rfl (by simp [go_sem, a.e 27 (m 0 rfl), IntWalk.i64_in ((i : Int) + 1) (by omega)]) rfl,
  fun f s W l m q r u a => opm (a.v 28 (m 1 rfl)), trivial⟩ ?_
   intro f12 s12 W12 hB12 g12 hg12 z12
   have fB12 := hB12.f fB10
   have b12_0 := hB12.b (hB10.b b9_0)
   have b12_1 := hB12.b (hB10.b b9_1)
   have b12_2 := hB12.b (hB10.b b9_2)
   have q119' := (q111'.below hB12.below)
   have q120' := (q112'.below hB12.below)
   have q121' := (q113'.below hB12.below)
   have q122' := (q114'.below hB12.below)
   refine wpe ?_
   have k12_3 := kt hg12 3 (kt hg10 3 k8_3)
   have k12_4 := kt hg12 4 (kt hg10 4 k8_4)
   have k12_6 := kt hg12 6 (kt hg10 6 k8_6)
   have k12_12 := kt hg12 12 (kt hg10 12 k8_12)
   have k12_14 := kt hg12 14 (kt hg10 14 (kt hg8 14 (kt hg7 14 (kt hg6 14 k_91_14))))
   have k12_15 := kt hg12 15 (kt hg10 15 k8_15)
   have k12_16 := kt hg12 16 (kt hg10 16 (kt hg8 16 k7_16))
   have k12_17 := kt hg12 17 (hB12.is 2)
   refine then_normal ?_
   exact ⟨_, by omega, g12, rfl, i + 1, (F + (i : Int)), rfl, k12_3, k12_4, k12_6, k12_12, k12_14, k12_15, k12_16, k12_17.trans (by go_num), fB12, (by omega), b12_0, b12_1, b12_2, q119', q120', q121', q122', (by omega), (nots_step (f := fun j => gapF vi k p cal (F + (j : Int))) lp1 (by simpa using hc13))⟩
 ·
  have hc7' := hc7; try simp only [ba] at hc7'
  refine wp_exit ?_
  refine then_exit ?_
  refine then_exit ?_
  refine inBlock_at ?_
  refine hK3 _ _ ?_
  refine rw_ 1 [(14, 0)] [[]] (rel [iB false])
   ⟨fun f s W l m q r u a => opz, trivial⟩ ?_
  intro f13 s13 W13 hB13 g13 hg13 z13
  have fB13 := hB13.f fB6
  have q123' := (q96'.below hB13.below)
  have q124' := (q97'.below hB13.below)
  have q125' := (q98'.below hB13.below)
  have q126' := (q99'.below hB13.below)
  have k13_14 := kt hg13 14 (hB13.is 0)
  refine wp_ret ?_
  refine leave_one (N := 67) (.inr rfl) Tryz.results71 rfl k13_14 ?_
  exact ⟨by rw [gap_no hFG fun j hj => lp1 j (by omega)], fB13⟩
theorem someR_bb {v : Value} {b : Bl} (vi : Wi) (k : Nat) (ki p flap off cal F G : Int) (w : World) (hB : Blk w v b) (hck : checkErr b = 0) (hw : WishIn vi) (hk : k < 2) (gfl : 0 ≤ flap ∧ flap ≤ 3000) (gof : 0 ≤ off ∧ off ≤ 5) (gcl : 0 ≤ cal ∧ cal ≤ 100000) (hFG : aroundL flap off 0 = rangeL F G) (gF : 0 ≤ F) (gG : G ≤ 3000) (gFG : F ≤ G) (hp : b.panels.getD (1 - k) 0 = p) (hki : ki = (k : Int)) :
    Calls Tryz.prog 71 #[v, .int .i64 flap, .int .i64 off, .int .i64 ki, .bool false, .agg #[.int .i64 vi.length.1, .int .i64 vi.length.2, .int .i64 vi.width.1, .int .i64 vi.width.2, .int .i64 vi.height.1, .int .i64 vi.height.2, .int .i64 vi.outer.1, .int .i64 vi.outer.2, .int .i64 vi.inner.1, .int .i64 vi.inner.2, .bool vi.isOpen], .int .i64 cal] w (fun e w' => e = .returned (.bool (gapS vi k p flap off cal)) ∧ Below w.heap.size w w') := by
  subst hki
  obtain ⟨a1, n1, c1, a2, n2, c2, a3, n3, c3, rfl, h1, h2, h3⟩ := hB
  obtain rfl := h1.1; obtain rfl := h2.1; obtain rfl := h3.1
  exact someR_b a1 a2 a3 c1 c2 c3 b vi k p flap off cal F G w h1 h2 h3 hck hw hk gfl gof gcl hFG gF gG gFG hp
theorem someR_tt {v : Value} {b : Bl} (vi : Wi) (k : Nat) (ki p flap off cal F G : Int) (w : World) (hB : Blk w v b) (hck : checkErr b = 0) (hw : WishIn vi) (hk : k < 2) (gfl : 0 ≤ flap ∧ flap ≤ 3000) (gof : 0 ≤ off ∧ off ≤ 5) (gcl : 0 ≤ cal ∧ cal ≤ 100000) (hFG : aroundL flap off 0 = rangeL F G) (gF : 0 ≤ F) (gG : G ≤ 3000) (gFG : F ≤ G) (hp : b.panels.getD (1 - k) 0 = p) (hki : ki = (k : Int)) (ho : b.isOpen = false) (hwo : vi.isOpen = false) :
    Calls Tryz.prog 71 #[v, .int .i64 flap, .int .i64 off, .int .i64 ki, .bool true, .agg #[.int .i64 vi.length.1, .int .i64 vi.length.2, .int .i64 vi.width.1, .int .i64 vi.width.2, .int .i64 vi.height.1, .int .i64 vi.height.2, .int .i64 vi.outer.1, .int .i64 vi.outer.2, .int .i64 vi.inner.1, .int .i64 vi.inner.2, .bool vi.isOpen], .int .i64 cal] w (fun e w' => e = .returned (.bool (gapS vi k p flap off cal)) ∧ Below w.heap.size w w') := by
  subst hki
  obtain ⟨a1, n1, c1, a2, n2, c2, a3, n3, c3, rfl, h1, h2, h3⟩ := hB
  obtain rfl := h1.1; obtain rfl := h2.1; obtain rfl := h3.1
  exact someR_t a1 a2 a3 c1 c2 c3 b vi k p flap off cal F G w h1 h2 h3 hck hw hk gfl gof gcl hFG gF gG gFG hp ho hwo
end Go.Proofs.YthnediamopehfaaGreat
