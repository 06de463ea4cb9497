/- Part of the proof: what the claim leans on. -/
import Derived.Test.YtnhipdbdolabkaaWAG
import Derived.Test.YtnhipdbdolabkaaWAA
set_option linter.unusedSimpArgs false
set_option linter.unusedVariables false
namespace Go.Proofs.Ytnhipdbdolabkaa
open Go.RowKit
set_option maxRecDepth 100000 in
set_option maxHeartbeats 4000000 in
theorem pubBlank_any (a1 a2 a3 : Option Addr) (c1 c2 c3 : Nat) (b : Bl) (w : World) (h1 : Ii w a1 b.panels.length c1 b.panels) (h2 : Ii w a2 b.top.length c2 b.top) (h3 : Ii w a3 b.bottom.length c3 b.bottom) (n1 : b.panels.length ≤ 1000) (n2 : b.top.length ≤ 1000) (n3 : b.bottom.length ≤ 1000) :
  Calls Try.prog 18 #[.agg #[.int .i64 b.tab, .slice (a1) (b.panels.length) (c1), .int .i64 b.height, .slice (a2) (b.top.length) (c2), .slice (a3) (b.bottom.length) (c3), .int .i64 b.slot, .bool b.isOpen]] w (NwBlkP b w) := by
 refine calls_fr Try.func18 Try.ntmps18 rfl rfl fun g hg => ?_
 have k0 : g 0 = .agg #[.int .i64 b.tab, .slice (a1) (b.panels.length) (c1), .int .i64 b.height, .slice (a2) (b.top.length) (c2), .slice (a3) (b.bottom.length) (c3), .int .i64 b.slot, .bool b.isOpen] := hg 0
 clear hg
 have fB0 : Below w.heap.size w w := Below.refl _ _
 refine wp_seq_k fun K1 hK1 => ?_
 refine region_dk 2 [(1, 0), (2, 1)] [[], []] (rel [bx 0 #[.int .i64 b.tab, .slice (a1) (b.panels.length) (c1), .int .i64 b.height, .slice (a2) (b.top.length) (c2), .slice (a3) (b.bottom.length) (c3), .int .i64 b.slot, .bool b.isOpen] 57,
   bx 1 #[.int .i64 0, .slice (none) (0) (0), .int .i64 0, .slice (none) (0) (0), .slice (none) (0) (0), .int .i64 0, .bool false] 57])
  ⟨bx_k, bx_k, trivial⟩
  ⟨fun f s W c d i j l a => opb rfl rfl (by simp [go_sem, a.e 0 k0]),
  fun f s W c d i j l a => opb rfl rfl (by simp [go_sem]), trivial⟩ ?_
 intro f1 s1 W1 hB1 g1 hg1
 have fB1 := hB1.f fB0
 have z1 := hB1.below.size
 obtain ⟨r1_0, br1_0⟩ := hB1.is 0
 have lr1_0 := hB1.lr 0 br1_0
 obtain ⟨r1_1, br1_1⟩ := hB1.is 1
 have lr1_1 := hB1.lr 1 br1_1
 have ne1_0_1 := hB1.nb 0 1
 refine hK1 _ _ ?_
 have k1_1 := kt hg1 1 r1_0
 have k1_2 := kt hg1 2 r1_1
 refine wp_seq_k fun K2 hK2 => ?_
 refine region_dk 10 [(3, 0), (4, 1), (5, 2), (6, 3), (7, 4), (8, 5), (9, 6), (10, 7), (11, 8), (12, 9), (13, 11), (14, 13)] [[], [0], [0, 1], [], [3], [0, 1, 2, 3, 4], [], [6], [0, 1, 2, 3, 4, 5, 6, 7], [0, 1, 2, 3, 4, 6, 7], [0, 1, 2, 3, 4, 5, 6, 7, 8, 9], [0, 1, 2, 3, 4, 5, 6, 7, 8, 9, 10], [0, 1, 2, 3, 4, 5, 6, 7, 8, 9, 10, 11], [0, 1, 2, 3, 4, 5, 6, 7, 8, 9, 10, 11, 12], [0, 1, 2, 3, 4, 5, 6, 7, 8, 9, 10, 11, 12, 13]] (rel [is (.pointer (some ⟨(s1 0), 1, none⟩)),
   is (.slice (a1) (b.panels.length) (c1)),
   fun v s W => NwIi (s 2) (b.panels) v W,
   is (.pointer (some ⟨(s1 0), 3, none⟩)),
   is (.slice (a2) (b.top.length) (c2)),
   fun v s W => NwIi (s 5) (b.top) v W,
   is (.pointer (some ⟨(s1 0), 4, none⟩)),
   is (.slice (a3) (b.bottom.length) (c3)),
   fun v s W => NwIi (s 8) (b.bottom) v W,
   is (.pointer (some ⟨(s1 0), 1, none⟩))])
  ⟨is_k, is_k, ⟨fun v k W W' hb h => h.below hb, fun v s s' W e h => by have h' : NwIi (s 2) (b.panels) v W := h; show NwIi (s' 2) (b.panels) v W; rw [← e 2 (by simp)]; exact h'⟩, is_k, is_k, ⟨fun v k W W' hb h => h.below hb, fun v s s' W e h => by have h' : NwIi (s 5) (b.top) v W := h; show NwIi (s' 5) (b.top) v W; rw [← e 5 (by simp)]; exact h'⟩, is_k, is_k, ⟨fun v k W W' hb h => h.below hb, fun v s s' W e h => by have h' : NwIi (s 8) (b.bottom) v W := h; show NwIi (s' 8) (b.bottom) v W; rw [← e 8 (by simp)]; exact h'⟩, is_k, trivial⟩
  ⟨fun f s W c d i j l a => opv rfl rfl (by simp [go_sem, a.e 1 k1_1]) rfl,
  fun f s W c d i j l a => opv rfl rfl (by simp [go_sem, a.e 3 (d 0 rfl), cb br1_0 c 1]) rfl,
  fun f s W c d i j l a => by have m := below_trans fB1 c; exact opDo_call rfl rfl (by simp [go_sem, a.e 4 (d 1 rfl)]) (pubInts_any a1 c1 b.panels W (h1.below m (Nat.le_refl _)) n1) (fun e W' h => by obtain ⟨v, e1, h1, h2⟩ := h; exact ⟨v, e1, h2, (show NwIi (upd s 2 W.heap.size 2) (b.panels) v W' from by rw [upd_at]; exact h1)⟩),
  fun f s W c d i j l a => opv rfl rfl (by simp [go_sem, a.e 1 k1_1]) rfl,
  fun f s W c d i j l a => opv rfl rfl (by simp [go_sem, a.e 6 (d 3 rfl), cb br1_0 c 3]) rfl,
  fun f s W c d i j l a => by have m := below_trans fB1 c; exact opDo_call rfl rfl (by simp [go_sem, a.e 7 (d 4 rfl)]) (pubInts_any a2 c2 b.top W (h2.below m (Nat.le_refl _)) n2) (fun e W' h => by obtain ⟨v, e1, h1, h2⟩ := h; exact ⟨v, e1, h2, (show NwIi (upd s 5 W.heap.size 5) (b.top) v W' from by rw [upd_at]; exact h1)⟩),
  fun f s W c d i j l a => opv rfl rfl (by simp [go_sem, a.e 1 k1_1]) rfl,
  fun f s W c d i j l a => opv rfl rfl (by simp [go_sem, a.e 9 (d 6 rfl), cb br1_0 c 4]) rfl,
  fun f s W c d i j l a => by have m := below_trans fB1 c; exact opDo_call rfl rfl (by simp [go_sem, a.e 10 (d 7 rfl)]) (pubInts_any a3 c3 b.bottom W (h3.below m (Nat.le_refl _)) n3) (fun e W' h => by obtain ⟨v, e1, h1, h2⟩ := h; exact ⟨v, e1, h2, (show NwIi (upd s 8 W.heap.size 8) (b.bottom) v W' from by rw [upd_at]; exact h1)⟩),
  fun f s W c d i j l a => opv rfl rfl (by simp [go_sem, a.e 1 k1_1]) rfl, trivial⟩ ?_
 intro f2 s2 W2 hB2 g2 hg2
 have fB2 := hB2.f fB1
 have z2 := hB2.below.size
 have b2_0 := hB2.b br1_0
 have b2_1 := hB2.b br1_1
 obtain ⟨g16', c17', r2_2, q18', q20', q19'⟩ := hB2.is 2
 obtain ⟨g21', c22', r2_5, q23', q25', q24'⟩ := hB2.is 5
 obtain ⟨g26', c27', r2_8, q28', q30', q29'⟩ := hB2.is 8
 have la2_2 := hB2.from' 2 (by decide)
 have la2_5 := hB2.from' 5 (by decide)
 have la2_8 := hB2.from' 8 (by decide)
 have k2_1 := kt hg2 1 k1_1
 have k2_2 := kt hg2 2 k1_2
 have k2_5 := kt hg2 5 r2_2
 have k2_8 := kt hg2 8 r2_5
 have k2_11 := kt hg2 11 r2_8
 have k2_12 := kt hg2 12 (hB2.is 9)
 obtain ⟨W3, hW3⟩ : ∃ W', W' = W2.setRow (s1 0) #[.int .i64 b.tab, .slice (some ⟨g16', 0, none⟩) ((b.panels).length) (c17'), .int .i64 b.height, .slice (a2) (b.top.length) (c2), .slice (a3) (b.bottom.length) (c3), .int .i64 b.slot, .bool b.isOpen] := ⟨_, rfl⟩
 refine tail_skip (o := _) rfl ⟨rfl, rfl⟩ (run_seg hW3 (fr_ev k2_12) (fr_ev k2_5) b2_0 rfl rfl rfl rfl) ?_
 obtain ⟨fB3, nb3, ot3, z3⟩ := seg_facts hW3 fB2 b2_0 (by omega)
 clear hW3
 have b3_1 := ot3 _ _ (by omega) b2_1
 have q31' := (q18'.other ot3 q19' (by omega) z3)
 have q32' := Nat.lt_of_lt_of_le q19' z3
 have q33' := (q23'.other ot3 q24' (by omega) z3)
 have q34' := Nat.lt_of_lt_of_le q24' z3
 have q35' := (q28'.other ot3 q29' (by omega) z3)
 have q36' := Nat.lt_of_lt_of_le q29' z3
 refine tail_value (o := _) rfl rfl rfl (v := .pointer (some ⟨(s1 0), 3, none⟩)) (by simp [go_sem, frv 16 k2_1]) ?_
 generalize hg4 : upd g2 13 (.pointer (some ⟨(s1 0), 3, none⟩)) = g4
 have k4_1 := ku hg4 1 k2_1
 have k4_2 := ku hg4 2 k2_2
 have k4_8 := ku hg4 8 k2_8
 have k4_11 := ku hg4 11 k2_11
 have k4_13 := kt hg4 13 (upd_same _ _ _)
 obtain ⟨W5, hW5⟩ : ∃ W', W' = W3.setRow (s1 0) #[.int .i64 b.tab, .slice (some ⟨g16', 0, none⟩) ((b.panels).length) (c17'), .int .i64 b.height, .slice (some ⟨g21', 0, none⟩) ((b.top).length) (c22'), .slice (a3) (b.bottom.length) (c3), .int .i64 b.slot, .bool b.isOpen] := ⟨_, rfl⟩
 refine tail_skip (o := _) rfl ⟨rfl, rfl⟩ (run_seg hW5 (fr_ev k4_13) (fr_ev k4_8) nb3 rfl rfl rfl rfl) ?_
 obtain ⟨fB5, nb5, ot5, z5⟩ := seg_facts hW5 fB3 nb3 (by omega)
 clear hW5
 have b5_1 := ot5 _ _ (by omega) b3_1
 have q37' := (q31'.other ot5 q32' (by omega) z5)
 have q38' := Nat.lt_of_lt_of_le q32' z5
 have q39' := (q33'.other ot5 q34' (by omega) z5)
 have q40' := Nat.lt_of_lt_of_le q34' z5
 have q41' := (q35'.other ot5 q36' (by omega) z5)
 have q42' := Nat.lt_of_lt_of_le q36' z5
 refine tail_value (o := _) rfl rfl rfl (v := .pointer (some ⟨(s1 0), 4, none⟩)) (by simp [go_sem, frv 16 k4_1]) ?_
 generalize hg6 : upd g4 14 (.pointer (some ⟨(s1 0), 4, none⟩)) = g6
 have k6_1 := ku hg6 1 k4_1
 have k6_2 := ku hg6 2 k4_2
 have k6_11 := ku hg6 11 k4_11
 have k6_14 := kt hg6 14 (upd_same _ _ _)
 obtain ⟨W7, hW7⟩ : ∃ W', W' = W5.setRow (s1 0) #[.int .i64 b.tab, .slice (some ⟨g16', 0, none⟩) ((b.panels).length) (c17'), .int .i64 b.height, .slice (some ⟨g21', 0, none⟩) ((b.top).length) (c22'), .slice (some ⟨g26', 0, none⟩) ((b.bottom).length) (c27'), .int .i64 b.slot, .bool b.isOpen] := ⟨_, rfl⟩
 refine tail_skip (o := _) rfl ⟨rfl, rfl⟩ (run_seg hW7 (fr_ev k6_14) (fr_ev k6_11) nb5 rfl rfl rfl rfl) ?_
 obtain ⟨fB7, nb7, ot7, z7⟩ := seg_facts hW7 fB5 nb5 (by omega)
 clear hW7
 have b7_1 := ot7 _ _ (by omega) b5_1
 have q43' := (q37'.other ot7 q38' (by omega) z7)
 have q44' := Nat.lt_of_lt_of_le q38' z7
 have q45' := (q39'.other ot7 q40' (by omega) z7)
 have q46' := Nat.lt_of_lt_of_le q40' z7
 have q47' := (q41'.other ot7 q42' (by omega) z7)
 have q48' := Nat.lt_of_lt_of_le q42' z7
 refine wpOps_end ?_
 refine hK2 _ _ ?_
 refine wp_seq_k fun K3 hK3 => ?_
 refine region_dk 1 [(15, 0)] [[], [0]] (rel [is (.agg #[.int .i64 b.tab, .slice (some ⟨g16', 0, none⟩) ((b.panels).length) (c17'), .int .i64 b.height, .slice (some ⟨g21', 0, none⟩) ((b.top).length) (c22'), .slice (some ⟨g26', 0, none⟩) ((b.bottom).length) (c27'), .int .i64 b.slot, .bool b.isOpen])])
  ⟨is_k, trivial⟩
  ⟨fun f s W c d i j l a => opv rfl rfl (by simp [go_sem, a.e 1 k6_1, cb nb7 c 0, cb nb7 c 1, cb nb7 c 2, cb nb7 c 3, cb nb7 c 4, cb nb7 c 5, cb nb7 c 6]) rfl, trivial⟩ ?_
 intro f8 s8 W8 hB8 g8 hg8
 have fB8 := hB8.f fB7
 have z8 := hB8.below.size
 have b8_0 := hB8.b nb7
 have b8_1 := hB8.b b7_1
 have q49' := q43'.bw hB8
 have q50' := (hB8.lt q44')
 have q51' := q45'.bw hB8
 have q52' := (hB8.lt q46')
 have q53' := q47'.bw hB8
 have q54' := (hB8.lt q48')
 have k8_2 := kt hg8 2 k6_2
 have k8_15 := kt hg8 15 (hB8.is 0)
 obtain ⟨W9, hW9⟩ : ∃ W', W' = W8.setRow (s1 1) #[.int .i64 b.tab, .slice (some ⟨g16', 0, none⟩) ((b.panels).length) (c17'), .int .i64 b.height, .slice (some ⟨g21', 0, none⟩) ((b.top).length) (c22'), .slice (some ⟨g26', 0, none⟩) ((b.bottom).length) (c27'), .int .i64 b.slot, .bool b.isOpen] := ⟨_, rfl⟩
 refine tail_skip (o := _) rfl ⟨rfl, rfl⟩ (run_seg hW9 (fr_ev k8_2) (fr_ev k8_15) b8_1 rfl rfl rfl rfl) ?_
 obtain ⟨fB9, nb9, ot9, z9⟩ := seg_facts hW9 fB8 b8_1 (by omega)
 clear hW9
 have b9_0 := ot9 _ _ (by omega) b8_0
 have q55' := (q49'.other ot9 q50' (by omega) z9)
 have q56' := Nat.lt_of_lt_of_le q50' z9
 have q57' := (q51'.other ot9 q52' (by omega) z9)
 have q58' := Nat.lt_of_lt_of_le q52' z9
 have q59' := (q53'.other ot9 q54' (by omega) z9)
 have q60' := Nat.lt_of_lt_of_le q54' z9
 refine wpOps_end ?_
 refine hK3 _ _ ?_
 refine wp_ret ?_
 refine leave_gen (v := .agg #[.int .i64 b.tab, .slice (some ⟨g16', 0, none⟩) ((b.panels).length) (c17'), .int .i64 b.height, .slice (some ⟨g21', 0, none⟩) ((b.top).length) (c22'), .slice (some ⟨g26', 0, none⟩) ((b.bottom).length) (c27'), .int .i64 b.slot, .bool b.isOpen]) (.inr rfl) (by simp [results, Try.results18, go_sem, frv 16 k8_2, cl nb9 0, cl nb9 1, cl nb9 2, cl nb9 3, cl nb9 4, cl nb9 5, cl nb9 6]) ?_
 exact ⟨_, rfl, ⟨_, _, _, _, _, _, rfl, ⟨q55', by omega, q56'⟩, ⟨q57', by omega, q58'⟩, ⟨q59', by omega, q60'⟩⟩, fB9⟩
end Go.Proofs.Ytnhipdbdolabkaa
namespace Go.Proofs.Ytnhipdbdolabkaa
open Go.RowKit
/-- A row of one's own, in block g. -/
def OwnR (T : TypeId) (z B n : Nat) (cs : List Value) (g c : Nat) (W : World) : Prop := B ≤ g ∧ g < W.heap.size ∧ W.ownsRow B T z (.slice (some ⟨g, 0, none⟩) n c) n cs
theorem OwnR.lim {T : TypeId} {z B n g c : Nat} {cs : List Value} {W : World} (h : OwnR T z B n cs g c W) : B ≤ g ∧ g < W.heap.size := ⟨h.1, h.2.1⟩
theorem OwnR.below {T : TypeId} {z B n g c : Nat} {cs : List Value} {W W' : World} (h : OwnR T z B n cs g c W) (hb : Below W.heap.size W W') : OwnR T z B n cs g c W' := by
  refine ⟨h.1, Nat.lt_of_lt_of_le h.2.1 hb.size, h.2.2.1, ?_⟩
  rcases h.2.2.2 with h4 | ⟨g', cap, cur, e, h5, h6, h7⟩
  · exact .inl h4
  · exact .inr ⟨g', cap, cur, e, h5, blk_below h6 hb, h7⟩
theorem OwnR.other {T : TypeId} {z B n g c b : Nat} {cs : List Value} {W W' : World} (h : OwnR T z B n cs g c W) (hot : ∀ k x, k ≠ b → W.heap[k]? = some x → W'.heap[k]? = some x) (hne : g ≠ b) (hz : W.heap.size ≤ W'.heap.size) : OwnR T z B n cs g c W' := by
  refine ⟨h.1, Nat.lt_of_lt_of_le h.2.1 hz, h.2.2.1, ?_⟩
  rcases h.2.2.2 with h4 | ⟨g', cap, cur, e, h5, h6, h7⟩
  · exact .inl h4
  · cases e
    exact .inr ⟨g, c, cur, rfl, h5, hot _ _ hne h6, h7⟩
theorem OwnR.cell {T : TypeId} {z B n g c : Nat} {cs : List Value} {W : World} (h : OwnR T z B n cs g c W) (j : Nat) {u : Value} (hj : cs[j]? = some u) : W.cell? ⟨g, j, none⟩ = some u := by
  rcases h.2.2.2 with ⟨h4, -⟩ | ⟨g', cap, cur, e, h5, h6, h7, h8, h9, h10⟩
  · cases h4
  · cases e
    have e1 : cs[j]? = (cur.toList.take (n * z))[j]? := by rw [h10]
    rw [hj] at e1
    have hlt : j < n * z := by
      rcases Nat.lt_or_ge j (n * z) with h' | h'
      · exact h'
      · rw [List.getElem?_eq_none (by simp; omega)] at e1; cases e1
    rw [List.getElem?_take_of_lt hlt, Array.getElem?_toList] at e1
    rw [Joins.cell_of_block h6 j, ← e1]
/-- append(l, x..) at a region's end, l one's own. -/
theorem growR_tail {w W : World} (sl ty T : TypeId) (z by_ : Nat) (zero : Value) (hu : Try.prog.underlying sl = some (.slice T)) (hi : (Try.prog.info? T).map (fun i => (i.zero, i.size, i.bytes)) = some (some zero, z, by_)) (hzz : decide (0 < z ∧ zero.cells.size = z) = true)
    {n g c : Nat} {cs : List Value} (ys : List Value) (m : Nat) {b off k c' : Nat} (es : List Value) (hB : Below w.heap.size w W) (hown : OwnR T z w.heap.size n cs g c W) (hys : cs ++ es = ys) (hm : n + k = m)
    (hel : decide (es.length = k * z ∧ 0 < k) = true) (h1 : es.all (·.oneCell') = true) (hb : ∀ j u, es[j]? = some u → W.cell? ⟨b, off + j, none⟩ = some u) (hn : decide ((n + k) * (by_ + 1) ≤ 1000000000) = true) :
    ∃ g' c2 W', (Builtin.append_ #[sl, sl] ty #[.slice (some ⟨g, 0, none⟩) n c, .slice (some ⟨b, off, none⟩) k c']).run Try.prog W = .ok (.slice (some ⟨g', 0, none⟩) m c2) W' ∧
      OwnR T z w.heap.size m ys g' c2 W' ∧ (∀ k y, k ≠ g → W.heap[k]? = some y → W'.heap[k]? = some y) ∧ W.heap.size ≤ W'.heap.size ∧ (g' = g ∨ g' = W.heap.size) ∧ Below w.heap.size w W' := by
  subst hys hm
  have hn := of_decide_eq_true hn
  obtain ⟨hz0, hzs⟩ := of_decide_eq_true hzz
  obtain ⟨hel, hk⟩ := of_decide_eq_true hel
  obtain ⟨i0, hi, hz0', hz1, hz2⟩ := info_parts hi
  have hnk : n + k ≤ (n + k) * (by_ + 1) := Nat.le_mul_of_pos_right _ (Nat.succ_pos _)
  have hnb : (n + k) * by_ ≤ (n + k) * (by_ + 1) := Nat.mul_le_mul_left _ (Nat.le_succ _)
  obtain ⟨g', c2, W', hr, h2, h3, h4, h5⟩ := run_append_lies (P := Try.prog) W sl ty w.heap.size T i0 zero z by_ hu hi hz0' hz1 hz2 hzs hz0 _ n cs hown.2.2
    ⟨b, off, none⟩ k c' es hel (fun j u hj => by rw [add_plain']; exact hb j u hj) (fun u hu => List.all_eq_true.1 h1 u hu) hk (by unfold maxLen; omega) (by omega) hB.size _ rfl
  have h4' : g' = g ∨ g' = W.heap.size := by
    rcases h4 with h4 | h4
    · left; simpa [Value.ownBlock] using h4.symm
    · exact .inr h4
  refine ⟨g', c2, W', hr, ⟨?_, h5, h2⟩, fun k y hk hy => ?_, h3.size, h4', hB.grown h3 hB.size fun k e => ?_⟩
  · have := hown.1; have := hB.size; omega
  · rw [h3.block k (by
      rcases Nat.lt_or_ge k W.heap.size with h | h
      · exact h
      · rw [Array.getElem?_eq_none h] at hy; cases hy) (fun e => hk (by simpa [Value.ownBlock] using e))]
    exact hy
  · have : k = g := by simpa [Value.ownBlock] using e.symm
    have := hown.1; omega
/-- The same, where l is nil. -/
theorem growR_nil {w W : World} (sl ty T : TypeId) (z by_ : Nat) (zero : Value) (hu : Try.prog.underlying sl = some (.slice T)) (hi : (Try.prog.info? T).map (fun i => (i.zero, i.size, i.bytes)) = some (some zero, z, by_)) (hzz : decide (0 < z ∧ zero.cells.size = z) = true)
    (m : Nat) {b off k c' : Nat} (es : List Value) (hB : Below w.heap.size w W) (hm : 0 + k = m)
    (hel : decide (es.length = k * z ∧ 0 < k) = true) (h1 : es.all (·.oneCell') = true) (hb : ∀ j u, es[j]? = some u → W.cell? ⟨b, off + j, none⟩ = some u) (hn : decide ((0 + k) * (by_ + 1) ≤ 1000000000) = true) :
    ∃ g' c2 W', (Builtin.append_ #[sl, sl] ty #[.slice none 0 0, .slice (some ⟨b, off, none⟩) k c']).run Try.prog W = .ok (.slice (some ⟨g', 0, none⟩) m c2) W' ∧
      OwnR T z w.heap.size m es g' c2 W' ∧ (∀ k y, k ≠ W.heap.size → W.heap[k]? = some y → W'.heap[k]? = some y) ∧ W.heap.size ≤ W'.heap.size ∧ g' = W.heap.size ∧ Below w.heap.size w W' := by
  subst hm
  have hn := of_decide_eq_true hn
  obtain ⟨hz0, hzs⟩ := of_decide_eq_true hzz
  obtain ⟨hel, hk⟩ := of_decide_eq_true hel
  obtain ⟨i0, hi, hz0', hz1, hz2⟩ := info_parts hi
  have hnk : 0 + k ≤ (0 + k) * (by_ + 1) := Nat.le_mul_of_pos_right _ (Nat.succ_pos _)
  have hnb : (0 + k) * by_ ≤ (0 + k) * (by_ + 1) := Nat.mul_le_mul_left _ (Nat.le_succ _)
  obtain ⟨g', c2, W', hr, h2, h3, h4, h5⟩ := run_append_lies (P := Try.prog) W sl ty w.heap.size T i0 zero z by_ hu hi hz0' hz1 hz2 hzs hz0 _ 0 [] (World.ownsRow_nil _ _ _ _)
    ⟨b, off, none⟩ k c' es hel (fun j u hj => by rw [add_plain']; exact hb j u hj) (fun u hu => List.all_eq_true.1 h1 u hu) hk (by unfold maxLen; omega) (by omega) hB.size _ rfl
  have h4' : g' = W.heap.size := by
    rcases h4 with h4 | h4
    · cases h4
    · exact h4
  refine ⟨g', c2, W', hr, ⟨?_, h5, by rw [List.nil_append] at h2; exact h2⟩, fun k y hk hy => ?_, h3.size, h4', hB.grown h3 hB.size fun k e => (by cases e)⟩
  · have := hB.size; omega
  · rw [h3.block k (by
      rcases Nat.lt_or_ge k W.heap.size with h | h
      · exact h
      · rw [Array.getElem?_eq_none h] at hy; cases hy) (fun e => (by cases e))]
    exact hy
/-- append([]T{}, l...), where l is not empty: the copy is one's own. -/
theorem cloneR_run (sl ty T : TypeId) (z by_ : Nat) (zero : Value) (hu : Try.prog.underlying sl = some (.slice T)) (hi : (Try.prog.info? T).map (fun i => (i.zero, i.size, i.bytes)) = some (some zero, z, by_)) (hzz : decide (0 < z ∧ zero.cells.size = z) = true)
    (W : World) (g b off n c : Nat) (es : List Value) (hel : es.length = n * z) (h0 : 0 < n) (hb : ∀ j u, es[j]? = some u → W.cell? ⟨b, off + j, none⟩ = some u) (hn : n * (by_ + 1) ≤ 1000000000) :
    ∃ v W', (Builtin.append_ #[sl, sl] ty #[.slice (some ⟨g, 0, none⟩) 0 0, .slice (some ⟨b, off, none⟩) n c]).run Try.prog W = .ok v W' ∧ Below W.heap.size W W' ∧ ∃ g' c', v = .slice (some ⟨g', 0, none⟩) n c' ∧ OwnR T z W.heap.size n es g' c' W' := by
  obtain ⟨hz0, hzs⟩ := of_decide_eq_true hzz
  obtain ⟨i0, hi, hz0', hz1, hz2⟩ := info_parts hi
  have hnk : n ≤ n * (by_ + 1) := Nat.le_mul_of_pos_right _ (Nat.succ_pos _)
  have hnb : n * by_ ≤ n * (by_ + 1) := Nat.mul_le_mul_left _ (Nat.le_succ _)
  obtain ⟨v, W', hr, hown, hgr⟩ := run_append_arg_grows (P := Try.prog) W sl ty T i0 zero z by_ hu hi hz0' hz1 hz2 hzs hz0 ⟨g, 0, none⟩ 0 0 [] (by simp) (fun j u hj => by simp at hj) ⟨b, off, none⟩ n c es hel
    (fun j u hj => by rw [add_plain']; exact hb j u hj)
    (by omega) (by unfold maxLen; omega) (by rw [Nat.zero_add]; omega)
  obtain ⟨g2, cap2, rfl⟩ := Joins.ownsRow_form hown (by omega)
  simp only [Nat.zero_add, List.nil_append] at hown hr
  exact ⟨_, W', hr, (Below.refl _ _).grown hgr (Nat.le_refl _) (fun k e => by cases e), g2, cap2, rfl, own_ge hown g2 rfl, own_lt' hown, hown⟩
end Go.Proofs.Ytnhipdbdolabkaa
namespace Go.Proofs.Ytnhipdbdolabkaa
open Go.RowKit
end Go.Proofs.Ytnhipdbdolabkaa
namespace Go.Proofs.Ytnhipdbdolabkaa
open Go.RowKit
/-- A row of one's own that may be nil yet. -/
def OwnN (T : TypeId) (z B n : Nat) (cs : List Value) (a : Option Addr) (c : Nat) (W : World) : Prop :=
  (a = none ∧ n = 0 ∧ c = 0 ∧ cs = []) ∨ ∃ g, a = some ⟨g, 0, none⟩ ∧ OwnR T z B n cs g c W
theorem ownN_nil {T : TypeId} {z B : Nat} {W : World} : OwnN T z B 0 [] none 0 W := .inl ⟨rfl, rfl, rfl, rfl⟩
theorem OwnN.below {T : TypeId} {z B n c : Nat} {cs : List Value} {a : Option Addr} {W W' : World} (h : OwnN T z B n cs a c W) (hb : Below W.heap.size W W') : OwnN T z B n cs a c W' := by
  rcases h with h | ⟨g, e, h⟩
  · exact .inl h
  · exact .inr ⟨g, e, h.below hb⟩
theorem OwnN.lim {T : TypeId} {z B n c : Nat} {cs : List Value} {a : Option Addr} {W : World} (h : OwnN T z B n cs a c W) : ∀ g, a = some ⟨g, 0, none⟩ → B ≤ g ∧ g < W.heap.size := by
  intro g e
  rcases h with ⟨e', -⟩ | ⟨g', e', h⟩
  · rw [e'] at e; cases e
  · rw [e'] at e; cases e; exact h.lim
theorem ownN_ne {T T' : TypeId} {z B n c b : Nat} {cs : List Value} {a : Option Addr} {cs0 : Array Value} {W : World} (h : OwnN T z B n cs a c W) (hb : W.heap[b]? = some (.cells cs0 T' (0, 0))) (hT : (T' != T) = true := by decide) : ∀ g, a = some ⟨g, 0, none⟩ → g ≠ b := by
  intro g e
  rcases h with ⟨e', -⟩ | ⟨g', e', h⟩
  · rw [e'] at e; cases e
  · rw [e'] at e; cases e
    rintro rfl
    have hT' : T' ≠ T := bne_iff_ne.1 hT
    rcases h.2.2.2 with ⟨e, -⟩ | ⟨g', cap, cur, e, -, h6, -⟩
    · cases e
    · cases e
      rw [hb] at h6
      simp only [Option.some.injEq, Obj.cells.injEq] at h6
      exact hT' h6.2.1
theorem OwnN.other {T : TypeId} {z B n c b : Nat} {cs : List Value} {a : Option Addr} {W W' : World} (h : OwnN T z B n cs a c W) (hot : ∀ k x, k ≠ b → W.heap[k]? = some x → W'.heap[k]? = some x) (hne : ∀ g, a = some ⟨g, 0, none⟩ → g ≠ b) (hz : W.heap.size ≤ W'.heap.size) : OwnN T z B n cs a c W' := by
  rcases h with h | ⟨g, e, h⟩
  · exact .inl h
  · exact .inr ⟨g, e, h.other hot (hne g e) hz⟩
theorem OwnR.same {T : TypeId} {z B n g c : Nat} {cs : List Value} {W W' : World} (h : OwnR T z B n cs g c W) (hz : W.heap.size ≤ W'.heap.size) (hb : ∀ x, W.heap[g]? = some x → W'.heap[g]? = some x) : OwnR T z B n cs g c W' := by
  refine ⟨h.1, Nat.lt_of_lt_of_le h.2.1 hz, h.2.2.1, ?_⟩
  rcases h.2.2.2 with h4 | ⟨g', cap, cur, e, h5, h6, h7⟩
  · exact .inl h4
  · cases e
    exact .inr ⟨g, c, cur, rfl, h5, hb _ h6, h7⟩
theorem OwnN.otherN {T T' : TypeId} {z z' B B' n n' c c' : Nat} {cs cs' : List Value} {a a' : Option Addr} {W W' : World} (h : OwnN T z B n cs a c W) (h' : OwnN T' z' B' n' cs' a' c' W) (hot : ∀ k y, (∀ g, a' = some ⟨g, 0, none⟩ → g ≠ k) → W.heap[k]? = some y → W'.heap[k]? = some y) (hz : W.heap.size ≤ W'.heap.size) (hT : (T != T') = true := by decide) : OwnN T z B n cs a c W' := by
  rcases h with h | ⟨g, e, h⟩
  · exact .inl h
  · refine .inr ⟨g, e, h.same hz fun x hx => ?_⟩
    have hx' := hx
    rcases h.2.2.2 with ⟨e, -⟩ | ⟨g', cap, cur, e, h5, h6, h7⟩
    · cases e
    · cases e
      exact hot g x (ownN_ne h' h6 hT) hx'
/-- append(l, x) at a region's end, l a row of one's own that may be nil yet. -/
theorem growN_tail {w W : World} (sl ty T : TypeId) (z by_ : Nat) (zero : Value) (hu : Try.prog.underlying sl = some (.slice T)) (hi : (Try.prog.info? T).map (fun i => (i.zero, i.size, i.bytes)) = some (some zero, z, by_)) (hzz : decide (0 < z ∧ zero.cells.size = z) = true)
    {n c : Nat} {a : Option Addr} {cs : List Value} (ys : List Value) (m : Nat) {b off k c' : Nat} (es : List Value) (hB : Below w.heap.size w W) (hown : OwnN T z w.heap.size n cs a c W) (hys : cs ++ es = ys) (hm : n + k = m)
    (hel : decide (es.length = k * z ∧ 0 < k) = true) (h1 : es.all (·.oneCell') = true) (hb : ∀ j u, es[j]? = some u → W.cell? ⟨b, off + j, none⟩ = some u) (hn : (n + k) * (by_ + 1) ≤ 1000000000) :
    ∃ g' c2 W', (Builtin.append_ #[sl, sl] ty #[.slice a n c, .slice (some ⟨b, off, none⟩) k c']).run Try.prog W = .ok (.slice (some ⟨g', 0, none⟩) m c2) W' ∧
      OwnR T z w.heap.size m ys g' c2 W' ∧ (∀ k y, (∀ g, a = some ⟨g, 0, none⟩ → g ≠ k) → W.heap[k]? = some y → W'.heap[k]? = some y) ∧ W.heap.size ≤ W'.heap.size ∧ (a = some ⟨g', 0, none⟩ ∨ g' = W.heap.size) ∧ Below w.heap.size w W' := by
  rcases hown with ⟨rfl, rfl, rfl, rfl⟩ | ⟨g, rfl, hown⟩
  · obtain ⟨g', c2, W', hr, h1', h2, h3, h4, h5⟩ := growR_nil (w := w) (W := W) sl ty T z by_ zero hu hi hzz m (b := b) (off := off) (k := k) (c' := c') es hB hm hel h1 hb (decide_eq_true hn)
    refine ⟨g', c2, W', hr, by rw [← hys]; exact h1', fun k y _ hy => h2 k y (fun e => ?_) hy, h3, .inr h4, h5⟩
    have := lt_of_blk hy
    omega
  · obtain ⟨g', c2, W', hr, h1', h2, h3, h4, h5⟩ := growR_tail (w := w) (W := W) sl ty T z by_ zero hu hi hzz ys m (b := b) (off := off) (k := k) (c' := c') es hB hown hys hm hel h1 hb (decide_eq_true hn)
    exact ⟨g', c2, W', hr, h1', fun k y hk hy => h2 k y (fun e => hk g rfl e.symm) hy, h3, h4.imp (fun e => by rw [e]) id, h5⟩
theorem OwnN.row {T : TypeId} {z B n g c : Nat} {cs : List Value} {W : World} (h : OwnN T z B n cs (some ⟨g, 0, none⟩) c W) : OwnR T z B n cs g c W := by
  rcases h with ⟨e, -⟩ | ⟨g', e, h⟩
  · cases e
  · cases e; exact h
end Go.Proofs.Ytnhipdbdolabkaa
