/- Part of the proof: what the claim leans on. -/
import Derived.Test.YthnediamopehfaaGreatZBLS5
set_option linter.unusedSimpArgs false
set_option linter.unusedVariables false
namespace Go.Proofs.YthnediamopehfaaGreat
open Go.RowKit
set_option maxRecDepth 100000 in
set_option maxHeartbeats 60000000 in
theorem blank_ref (vi : Wi) (lo hi tab : Int) (St : Nat → Nat → Bl × Int) (Ou : Nat → Bl × Int) (Hs : Nat → Int × Int) (w : World) (hw : WishIn vi) (gl : 0 ≤ lo) (glh : lo ≤ hi + 1) (gh : hi ≤ 10000) (gh1 : 1 ≤ hi) (hO0 : Ou 0 = (⟨tab, [1, 1, 1, 1], 1, [0, 0], [0, 0], 20, vi.isOpen⟩, 10)) (hOs : ∀ i, i < 4 → Ou (i + 1) = ((St i 3000).1, if 0 ≤ (St i 3000).2 then min (Ou i).2 (St i 3000).2 else (Ou i).2)) (hS0 : ∀ i, St i 0 = ((Ou i).1, (i : Int))) (hSn : ∀ i n, 0 ≤ (St i n).2 → St i (n + 1) = nextP vi (lo, hi) i (St i n) ((n : Int) + 1)) (hSe : ∀ i n, (St i n).2 < 0 → n ≤ 3000 → St i n = St i 3000) (hOk : ∀ i, i ≤ 4 → checkErr (Ou i).1 = 0 ∧ (Ou i).1.isOpen = vi.isOpen ∧ 0 ≤ (Ou i).2 ∧ (Ou i).2 ≤ 10) (hSk : ∀ i n, i < 4 → n ≤ 3000 → StOk vi (St i n)) (hOh : (Ou 4).1.height = 1) (hOl : (Ou 4).1.slot = 20) (hH0 : Hs 0 = (1, 4)) (hHn : ∀ m, 0 ≤ (Hs m).2 → Hs (m + 1) = ((m : Int) + 1, if alwR (setH (Ou 4).1 ((m : Int) + 1)) vi (lo, hi) 4 = true then -1 else (Hs m).2)) (hHe : ∀ m, (Hs m).2 < 0 → m ≤ 3000 → Hs m = Hs 3000) (hHk : ∀ m, (1 ≤ (Hs m).1 ∧ (Hs m).1 ≤ (m : Int) + 1) ∧ -1 ≤ (Hs m).2 ∧ (Hs m).2 ≤ 4) :
    Calls Tryz.prog 30 #[.agg #[.int .i64 vi.length.1, .int .i64 vi.length.2, .int .i64 vi.width.1, .int .i64 vi.width.2, .int .i64 vi.height.1, .int .i64 vi.height.2, .int .i64 vi.outer.1, .int .i64 vi.outer.2, .int .i64 vi.inner.1, .int .i64 vi.inner.2, .bool vi.isOpen], .agg #[.int .i64 lo, .int .i64 hi], .int .i64 tab] w (fun e w' => ∃ v, e = .returned (.tuple #[v, .int .i64 (if 0 ≤ (Hs 3000).2 then min (Ou 4).2 (Hs 3000).2 else (Ou 4).2)]) ∧ NwBlk w.heap.size (refBl (Ou 4).1 (Hs 3000).1 (upI hi 1000)) v w' ∧ Below w.heap.size w w') := by
  refine calls_fr Tryz.func30 Tryz.ntmps30 rfl rfl fun g hg => ?_
  have k0 : g 0 = .agg #[.int .i64 vi.length.1, .int .i64 vi.length.2, .int .i64 vi.width.1, .int .i64 vi.width.2, .int .i64 vi.height.1, .int .i64 vi.height.2, .int .i64 vi.outer.1, .int .i64 vi.outer.2, .int .i64 vi.inner.1, .int .i64 vi.inner.2, .bool vi.isOpen] := hg 0
  have k1 : g 1 = .agg #[.int .i64 lo, .int .i64 hi] := hg 1
  have k2 : g 2 = .int .i64 tab := hg 2
  clear hg
  have fB0 : Below w.heap.size w w := Below.refl _ _
  refine wp_seq_k fun K1 hK1 => ?_
  refine region_dk 4 [(3, 0), (4, 1), (6, 2), (7, 3)] [[], [], [], []] (rel [bx 0 #[.int .i64 vi.length.1, .int .i64 vi.length.2, .int .i64 vi.width.1, .int .i64 vi.width.2, .int .i64 vi.height.1, .int .i64 vi.height.2, .int .i64 vi.outer.1, .int .i64 vi.outer.2, .int .i64 vi.inner.1, .int .i64 vi.inner.2, .bool vi.isOpen] 43,
      bx 1 #[.int .i64 lo, .int .i64 hi] 26,
      bx 2 #[.int .i64 0, .slice (none) (0) (0), .int .i64 0, .slice (none) (0) (0), .slice (none) (0) (0), .int .i64 0, .bool false] 24,
      is (.int .i64 0)])
    ⟨bx_k, bx_k, bx_k, is_k, trivial⟩
    ⟨fun f s W j l p q r a => opb rfl rfl (by simp [go_sem, a.e 0 k0]),
    fun f s W j l p q r a => opb rfl rfl (by simp [go_sem, a.e 1 k1]),
    fun f s W j l p q r a => opb rfl rfl (by simp [go_sem]),
    fun f s W j l p q r a => opv rfl rfl (by simp [go_sem]) rfl, trivial⟩ ?_
  intro f1 s1 W1 hB1 g1 hg1
  have fB1 := hB1.f fB0
  have z1 := hB1.below.size
  obtain ⟨r1_0, br1_0⟩ := hB1.is 0
  have lr1_0 := hB1.lr 0 br1_0
  obtain ⟨r1_1, br1_1⟩ := hB1.is 1
  have lr1_1 := hB1.lr 1 br1_1
  obtain ⟨r1_2, br1_2⟩ := hB1.is 2
  have lr1_2 := hB1.lr 2 br1_2
  have ne1_0_1 := hB1.nb 0 1
  have ne1_0_2 := hB1.nb 0 2
  have ne1_1_2 := hB1.nb 1 2
  refine hK1 _ _ ?_
  have k1_2 := kt hg1 2 k2
  have k1_3 := kt hg1 3 r1_0
  have k1_4 := kt hg1 4 r1_1
  have k1_6 := kt hg1 6 r1_2
  have k1_7 := kt hg1 7 (hB1.is 3)
  refine wp_seq_k fun K2 hK2 => ?_
  refine region_dk 8 [(19, 0), (20, 1), (21, 2), (22, 3), (23, 4), (24, 5), (25, 6), (8, 7), (9, 9)] [[], [], [], [], [], [4], [0, 1, 2, 3, 4, 5], [], [0, 1, 2, 3, 4, 5, 6, 7], [0, 1, 2, 3, 4, 5, 6, 7, 8]] (rel [is (.int .i64 tab),
      row 1 4 #[.int .i64 1, .int .i64 1, .int .i64 1, .int .i64 1] 3,
      row 2 2 #[.int .i64 0, .int .i64 0] 3,
      row 3 2 #[.int .i64 0, .int .i64 0] 3,
      is (.pointer (some ⟨(s1 0), 10, none⟩)),
      is (.bool vi.isOpen),
      isS fun s => .agg #[.int .i64 tab, .slice (some ⟨(s 1), 0, none⟩) (4) (4), .int .i64 1, .slice (some ⟨(s 2), 0, none⟩) (2) (2), .slice (some ⟨(s 3), 0, none⟩) (2) (2), .int .i64 20, .bool vi.isOpen],
      bx 7 #[.int .i64 0, .slice (none) (0) (0), .int .i64 0, .slice (none) (0) (0), .slice (none) (0) (0), .int .i64 0, .bool false] 24])
    ⟨is_k, row_k, row_k, row_k, is_k, is_k, isS_k fun s s' e => by rw [e 1 (by simp), e 2 (by simp), e 3 (by simp)], bx_k, trivial⟩
    ⟨fun f s W j l p q r a => opv rfl rfl (by simp [go_sem, a.e 2 k1_2]) rfl,
    fun f s W j l p q r a => opr rfl rfl (by simp [go_sem]),
    fun f s W j l p q r a => opr rfl rfl (by simp [go_sem]),
    fun f s W j l p q r a => opr rfl rfl (by simp [go_sem]),
    fun f s W j l p q r a => opv rfl rfl (by simp [go_sem, a.e 3 k1_3]) rfl,
    fun f s W j l p q r a => opv rfl rfl (by simp [go_sem, a.e 23 (l 4 rfl), cb br1_0 j 10]) rfl,
    fun f s W j l p q r a => opv rfl rfl (by simp [go_sem, a.e 19 (l 0 rfl), a.e 20 (l 1 rfl).1, a.e 21 (l 2 rfl).1, a.e 22 (l 3 rfl).1, a.e 24 (l 5 rfl), upd]) rfl,
    fun f s W j l p q r a => opb rfl rfl (by simp [go_sem]), trivial⟩ ?_
  intro f2 s2 W2 hB2 g2 hg2
  have fB2 := hB2.f fB1
  have z2 := hB2.below.size
  have b2_0 := hB2.b br1_0
  have b2_1 := hB2.b br1_1
  have b2_2 := hB2.b br1_2
  obtain ⟨r2_1, br2_1⟩ := hB2.is 1
  have lr2_1 := hB2.lr 1 br2_1
  obtain ⟨r2_2, br2_2⟩ := hB2.is 2
  have lr2_2 := hB2.lr 2 br2_2
  obtain ⟨r2_3, br2_3⟩ := hB2.is 3
  have lr2_3 := hB2.lr 3 br2_3
  obtain ⟨r2_7, br2_7⟩ := hB2.is 7
  have lr2_7 := hB2.lr 7 br2_7
  have ne2_1_2 := hB2.nb 1 2
  have ne2_1_3 := hB2.nb 1 3
  have ne2_2_3 := hB2.nb 2 3
  have ne2_1_7 := hB2.nb 1 7
  have ne2_2_7 := hB2.nb 2 7
  have ne2_3_7 := hB2.nb 3 7
  have k2_3 := kt hg2 3 k1_3
  have k2_4 := kt hg2 4 k1_4
  have k2_6 := kt hg2 6 k1_6
  have k2_7 := kt hg2 7 k1_7
  have k2_25 := kt hg2 25 (hB2.is 6)
  have k2_8 := kt hg2 8 r2_7
  obtain ⟨W3, hW3⟩ : ∃ W', W' = W2.setRow (s2 7) #[.int .i64 tab, .slice (some ⟨(s2 1), 0, none⟩) (4) (4), .int .i64 1, .slice (some ⟨(s2 2), 0, none⟩) (2) (2), .slice (some ⟨(s2 3), 0, none⟩) (2) (2), .int .i64 20, .bool vi.isOpen] := ⟨_, rfl⟩
  refine tail_skip (o := _) rfl ⟨rfl, rfl⟩ (run_seg hW3 (fr_ev k2_8) (fr_ev k2_25) br2_7 rfl rfl rfl rfl) ?_
  obtain ⟨fB3, nb3, ot3, z3⟩ := seg_facts hW3 fB2 br2_7 (by omega)
  clear hW3
  have b3_0 := ot3 _ _ (by omega) b2_0
  have b3_1 := ot3 _ _ (by omega) b2_1
  have b3_2 := ot3 _ _ (by omega) b2_2
  have b3_3 := ot3 _ _ (by omega) br2_1
  have b3_4 := ot3 _ _ (by omega) br2_2
  have b3_5 := ot3 _ _ (by omega) br2_3
  refine tail_value (o := _) rfl rfl rfl (v := .int .i64 10) (by simp [go_sem]) ?_
  generalize hg4 : upd g2 9 (.int .i64 10) = g4
  have k4_3 := ku hg4 3 k2_3
  have k4_4 := ku hg4 4 k2_4
  have k4_6 := ku hg4 6 k2_6
  have k4_7 := ku hg4 7 k2_7
  have k4_8 := ku hg4 8 k2_8
  have k4_9 := kt hg4 9 (upd_same _ _ _)
  refine wpOps_end ?_
  refine hK2 _ _ ?_
  refine wp_seq_k fun K3 hK3 => ?_
  refine wp_seq_k fun K4 hK4 => ?_
  refine region_dk 1 [(10, 0)] [[]] (rel [is (.int .i64 0)])
    ⟨is_k, trivial⟩
    ⟨fun f s W j l p q r a => opv rfl rfl (by simp [go_sem]) rfl, trivial⟩ ?_
  intro f5 s5 W5 hB5 g5 hg5
  have fB5 := hB5.f fB3
  have z5 := hB5.below.size
  have b5_0 := hB5.b b3_0
  have b5_1 := hB5.b b3_1
  have b5_2 := hB5.b b3_2
  have b5_3 := hB5.b b3_3
  have b5_4 := hB5.b b3_4
  have b5_5 := hB5.b b3_5
  have b5_6 := hB5.b nb3
  refine hK4 _ _ ?_
  have k5_3 := kt hg5 3 k4_3
  have k5_4 := kt hg5 4 k4_4
  have k5_6 := kt hg5 6 k4_6
  have k5_7 := kt hg5 7 k4_7
  have k5_8 := kt hg5 8 k4_8
  have k5_9 := kt hg5 9 k4_9
  have k5_10 := kt hg5 10 (hB5.is 0)
  refine wp_block ?_
  refine wp_loop_n (fun m_ a_ W_ => ∃ g_ : Nat → Value, a_ = fr 112 g_ ∧ (∃ i : Nat, ∃ pa : Nat, ∃ pc : Nat, ∃ ta : Nat, ∃ tc : Nat, ∃ da : Nat, ∃ dc : Nat, m_ = 4 - i ∧ g_ 3 = .pointer (some ⟨(s1 0), 0, none⟩) ∧ g_ 4 = .pointer (some ⟨(s1 1), 0, none⟩) ∧ g_ 6 = .pointer (some ⟨(s1 2), 0, none⟩) ∧ g_ 7 = .int .i64 0 ∧ g_ 8 = .pointer (some ⟨(s2 7), 0, none⟩) ∧ g_ 10 = .int .i64 ((i : Int)) ∧ g_ 9 = .int .i64 ((Ou i).2) ∧ Below w.heap.size w W_ ∧ W5.heap.size ≤ W_.heap.size ∧ W_.heap[(s1 0)]? = some (.cells #[.int .i64 vi.length.1, .int .i64 vi.length.2, .int .i64 vi.width.1, .int .i64 vi.width.2, .int .i64 vi.height.1, .int .i64 vi.height.2, .int .i64 vi.outer.1, .int .i64 vi.outer.2, .int .i64 vi.inner.1, .int .i64 vi.inner.2, .bool vi.isOpen] 43 (0, 0)) ∧ W_.heap[(s1 1)]? = some (.cells #[.int .i64 lo, .int .i64 hi] 26 (0, 0)) ∧ W_.heap[(s1 2)]? = some (.cells #[.int .i64 0, .slice (none) (0) (0), .int .i64 0, .slice (none) (0) (0), .slice (none) (0) (0), .int .i64 0, .bool false] 24 (0, 0)) ∧ W_.heap[(s2 7)]? = some (.cells #[.int .i64 ((Ou i).1.tab), .slice (some ⟨pa, 0, none⟩) ((Ou i).1.panels.length) (pc), .int .i64 ((Ou i).1.height), .slice (some ⟨ta, 0, none⟩) ((Ou i).1.top.length) (tc), .slice (some ⟨da, 0, none⟩) ((Ou i).1.bottom.length) (dc), .int .i64 ((Ou i).1.slot), .bool ((Ou i).1.isOpen)] 24 (0, 0)) ∧ Ii W_ (some ⟨pa, 0, none⟩) (Ou i).1.panels.length pc (Ou i).1.panels ∧ Ii W_ (some ⟨ta, 0, none⟩) (Ou i).1.top.length tc (Ou i).1.top ∧ Ii W_ (some ⟨da, 0, none⟩) (Ou i).1.bottom.length dc (Ou i).1.bottom ∧ pa < W_.heap.size ∧ ta < W_.heap.size ∧ da < W_.heap.size ∧ (i ≤ 4) ∧ (pa ≠ (s2 7)) ∧ (ta ≠ (s2 7)) ∧ (da ≠ (s2 7)) ∧ (pa ≠ (s1 2)) ∧ (ta ≠ (s1 2)) ∧ (da ≠ (s1 2)) ∧ (w.heap.size ≤ pa) ∧ (w.heap.size ≤ ta) ∧ (w.heap.size ≤ da))) ⟨_, g5, rfl, 0, (s2 1), 4, (s2 2), 2, (s2 3), 2, rfl, k5_3, k5_4, k5_6, k5_7, k5_8, k5_10.trans (by rfl), k5_9.trans (by rw [hO0]), fB5, Nat.le_refl _, b5_0, b5_1, b5_2, (by rw [hO0]; exact b5_6), (by rw [hO0]; exact ii_block (xs := [1, 1, 1, 1]) b5_3 rfl rfl), (by rw [hO0]; exact ii_block (xs := [0, 0]) b5_4 rfl rfl), (by rw [hO0]; exact ii_block (xs := [0, 0]) b5_5 rfl rfl), (lt_of_blk b5_3), (lt_of_blk b5_4), (lt_of_blk b5_5), (by omega), (by omega), (by omega), (by omega), (by omega), (by omega), (by omega), (by omega), (by omega), (by omega)⟩ ?_
  rintro _ _ W_1 ⟨g_1, rfl, i, pa, pc, ta, tc, da, dc, rfl, k_1_3, k_1_4, k_1_6, k_1_7, k_1_8, k_1_10, k_1_9, fB_1, z_1, b_1_0, b_1_1, b_1_2, m_1_0, q2', q3', q4', q5', q6', q7', lp0, lp1, lp2, lp3, lp4, lp5, lp6, lp7, lp8, lp9⟩
  refine wp_seq_k fun K5 hK5 => ?_
  refine wp_seq_k fun K6 hK6 => ?_
  refine region_dk 2 [(26, 0), (27, 1)] [[], [0]] (rel [is (.int .i64 ((i : Int))),
      is (.bool (decide ((i : Int) < 4)))])
    ⟨is_k, is_k, trivial⟩
    ⟨fun f s W j l p q r a => opv rfl rfl (by simp [go_sem, a.e 10 k_1_10]) rfl,
    fun f s W j l p q r a => opv rfl rfl (by simp [go_sem, a.e 26 (l 0 rfl)]) rfl, trivial⟩ ?_
  intro f6 s6 W6 hB6 g6 hg6
  have fB6 := hB6.f fB_1
  have z6 := hB6.below.size
  have b6_0 := hB6.b b_1_0
  have b6_1 := hB6.b b_1_1
  have b6_2 := hB6.b b_1_2
  have b6_3 := hB6.b m_1_0
  have q8' := (q2'.bw hB6)
  have q9' := (q3'.bw hB6)
  have q10' := (q4'.bw hB6)
  have q11' := (hB6.lt q5')
  have q12' := (hB6.lt q6')
  have q13' := (hB6.lt q7')
  refine hK6 _ _ ?_
  have k6_3 := kt hg6 3 k_1_3
  have k6_4 := kt hg6 4 k_1_4
  have k6_6 := kt hg6 6 k_1_6
  have k6_7 := kt hg6 7 k_1_7
  have k6_8 := kt hg6 8 k_1_8
  have k6_10 := kt hg6 10 k_1_10
  have k6_9 := kt hg6 9 k_1_9
  have k6_27 := kt hg6 27 (hB6.is 1)
  refine wp_cond_split (t := decide ((i : Int) < 4)) ((fr_eval rfl).trans k6_27) (fun hc7 => ?_) (fun hc7 => ?_)
  ·
    have hc7' := hc7; try simp only [ba] at hc7'
    have hi4 : i < 4 := by omega
    have hoi := hOk i (by omega)
    refine wp_skip ?_
    refine hK5 _ _ ?_
    refine wp_seq_k fun K8 hK8 => ?_
    refine wp_block ?_
    refine wp_seq_k fun K9 hK9 => ?_
    refine region_dk 2 [(30, 0), (11, 1)] [[], [0]] (rel [is (.int .i64 ((i : Int))),
      is (.int .i64 ((i : Int)))])
      ⟨is_k, is_k, trivial⟩
      ⟨fun f s W j l p q r a => opv rfl rfl (by simp [go_sem, a.e 10 k6_10]) rfl,
    fun f s W j l p q r a => opv rfl rfl (by simp [go_sem, a.e 30 (l 0 rfl)]) rfl, trivial⟩ ?_
    intro f7 s7 W7 hB7 g7 hg7
    have fB7 := hB7.f fB6
    have z7 := hB7.below.size
    have b7_0 := hB7.b b6_0
    have b7_1 := hB7.b b6_1
    have b7_2 := hB7.b b6_2
    have b7_3 := hB7.b b6_3
    have q14' := (q8'.bw hB7)
    have q15' := (q9'.bw hB7)
    have q16' := (q10'.bw hB7)
    have q17' := (hB7.lt q11')
    have q18' := (hB7.lt q12')
    have q19' := (hB7.lt q13')
    refine hK9 _ _ ?_
    have k7_3 := kt hg7 3 k6_3
    have k7_4 := kt hg7 4 k6_4
    have k7_6 := kt hg7 6 k6_6
    have k7_7 := kt hg7 7 k6_7
    have k7_8 := kt hg7 8 k6_8
    have k7_10 := kt hg7 10 k6_10
    have k7_9 := kt hg7 9 k6_9
    have k7_11 := kt hg7 11 (hB7.is 1)
    refine wp_seq_k fun K10 hK10 => ?_
    refine wp_seq_k fun K11 hK11 => ?_
    refine region_dk 1 [(12, 0)] [[]] (rel [is (.int .i64 1)])
      ⟨is_k, trivial⟩
      ⟨fun f s W j l p q r a => opv rfl rfl (by simp [go_sem]) rfl, trivial⟩ ?_
    intro f8 s8 W8 hB8 g8 hg8
    have fB8 := hB8.f fB7
    have z8 := hB8.below.size
    have b8_0 := hB8.b b7_0
    have b8_1 := hB8.b b7_1
    have b8_2 := hB8.b b7_2
    have b8_3 := hB8.b b7_3
    have q20' := (q14'.bw hB8)
    have q21' := (q15'.bw hB8)
    have q22' := (q16'.bw hB8)
    have q23' := (hB8.lt q17')
    have q24' := (hB8.lt q18')
    have q25' := (hB8.lt q19')
    refine hK11 _ _ ?_
    have k8_3 := kt hg8 3 k7_3
    have k8_4 := kt hg8 4 k7_4
    have k8_6 := kt hg8 6 k7_6
    have k8_7 := kt hg8 7 k7_7
    have k8_8 := kt hg8 8 k7_8
    have k8_10 := kt hg8 10 k7_10
    have k8_9 := kt hg8 9 k7_9
    have k8_11 := kt hg8 11 k7_11
    have k8_12 := kt hg8 12 (hB8.is 0)
    refine wp_block ?_
    refine wp_loop_n (fun m_ a_ W_ => ∃ g_ : Nat → Value, a_ = fr 112 g_ ∧ (∃ n : Nat, ∃ ua : Nat, ∃ uc : Nat, ∃ va : Nat, ∃ vc : Nat, ∃ xa : Nat, ∃ xc : Nat, m_ = 3000 - n ∧ g_ 3 = .pointer (some ⟨(s1 0), 0, none⟩) ∧ g_ 4 = .pointer (some ⟨(s1 1), 0, none⟩) ∧ g_ 6 = .pointer (some ⟨(s1 2), 0, none⟩) ∧ g_ 7 = .int .i64 0 ∧ g_ 8 = .pointer (some ⟨(s2 7), 0, none⟩) ∧ g_ 10 = .int .i64 ((i : Int)) ∧ g_ 9 = .int .i64 ((Ou i).2) ∧ g_ 12 = .int .i64 ((n : Int) + 1) ∧ g_ 11 = .int .i64 ((St i n).2) ∧ Below w.heap.size w W_ ∧ W8.heap.size ≤ W_.heap.size ∧ W_.heap[(s1 0)]? = some (.cells #[.int .i64 vi.length.1, .int .i64 vi.length.2, .int .i64 vi.width.1, .int .i64 vi.width.2, .int .i64 vi.height.1, .int .i64 vi.height.2, .int .i64 vi.outer.1, .int .i64 vi.outer.2, .int .i64 vi.inner.1, .int .i64 vi.inner.2, .bool vi.isOpen] 43 (0, 0)) ∧ W_.heap[(s1 1)]? = some (.cells #[.int .i64 lo, .int .i64 hi] 26 (0, 0)) ∧ W_.heap[(s1 2)]? = some (.cells #[.int .i64 0, .slice (none) (0) (0), .int .i64 0, .slice (none) (0) (0), .slice (none) (0) (0), .int .i64 0, .bool false] 24 (0, 0)) ∧ W_.heap[(s2 7)]? = some (.cells #[.int .i64 ((St i n).1.tab), .slice (some ⟨ua, 0, none⟩) ((St i n).1.panels.length) (uc), .int .i64 ((St i n).1.height), .slice (some ⟨va, 0, none⟩) ((St i n).1.top.length) (vc), .slice (some ⟨xa, 0, none⟩) ((St i n).1.bottom.length) (xc), .int .i64 ((St i n).1.slot), .bool ((St i n).1.isOpen)] 24 (0, 0)) ∧ Ii W_ (some ⟨ua, 0, none⟩) (St i n).1.panels.length uc (St i n).1.panels ∧ Ii W_ (some ⟨va, 0, none⟩) (St i n).1.top.length vc (St i n).1.top ∧ Ii W_ (some ⟨xa, 0, none⟩) (St i n).1.bottom.length xc (St i n).1.bottom ∧ ua < W_.heap.size ∧ va < W_.heap.size ∧ xa < W_.heap.size ∧ (n ≤ 3000) ∧ (ua ≠ (s2 7)) ∧ (va ≠ (s2 7)) ∧ (xa ≠ (s2 7)) ∧ (ua ≠ (s1 2)) ∧ (va ≠ (s1 2)) ∧ (xa ≠ (s1 2)) ∧ (w.heap.size ≤ ua) ∧ (w.heap.size ≤ va) ∧ (w.heap.size ≤ xa))) ⟨_, g8, rfl, 0, pa, pc, ta, tc, da, dc, rfl, k8_3, k8_4, k8_6, k8_7, k8_8, k8_10, k8_9, k8_12.trans (by rfl), k8_11.trans (by rw [hS0]), fB8, Nat.le_refl _, b8_0, b8_1, b8_2, (by rw [hS0]; exact b8_3), (by rw [hS0]; exact q20'), (by rw [hS0]; exact q21'), (by rw [hS0]; exact q22'), q23', q24', q25', (by omega), (by omega), (by omega), (by omega), (by omega), (by omega), (by omega), (by omega), (by omega), (by omega)⟩ ?_
    rintro _ _ W_26 ⟨g_26, rfl, n, ua, uc, va, vc, xa, xc, rfl, k_26_3, k_26_4, k_26_6, k_26_7, k_26_8, k_26_10, k_26_9, k_26_12, k_26_11, fB_26, z_26, b_26_0, b_26_1, b_26_2, m_26_0, q27', q28', q29', q30', q31', q32', mp0, mp1, mp2, mp3, mp4, mp5, mp6, mp7, mp8, mp9⟩
    refine wp_seq_k fun K12 hK12 => ?_
    refine wp_seq_k fun K13 hK13 => ?_
    refine region_dk 6 [(31, 0), (32, 1), (33, 2), (34, 3), (35, 4), (36, 5)] [[], [0], [0, 1], [0, 1, 2], [0, 1, 2, 3], [0, 1, 2, 3, 4]] (rel [is (.int .i64 ((n : Int) + 1)),
      is (.bool (decide (((n : Int) + 1) ≤ 3000))),
      is (.bool (decide (((n : Int) + 1) ≤ 3000))),
      gd (decide (((n : Int) + 1) ≤ 3000)) true (is (.int .i64 ((St i n).2))),
      gd (decide (((n : Int) + 1) ≤ 3000)) true (is (.bool (decide (0 ≤ ((St i n).2))))),
      is (.bool ((decide (((n : Int) + 1) ≤ 3000)) && (decide (0 ≤ ((St i n).2)))))])
      ⟨is_k, is_k, is_k, gd_k (is_k), gd_k (is_k), is_k, trivial⟩
      ⟨fun f s W j l p q r a => opv rfl rfl (by simp [go_sem, a.e 12 k_26_12]) rfl,
    fun f s W j l p q r a => opv rfl rfl (by simp [go_sem, a.e 31 (l 0 rfl)]) rfl,
    fun f s W j l p q r a => opv rfl rfl (by simp [go_sem, a.e 32 (l 1 rfl)]) rfl,
    fun f s W j l p q r a => gdo rfl rfl (a.says (d := 33) rfl rfl (l 2 rfl)) fun hgd0 => gv (by simp [go_sem, a.e 11 k_26_11]) rfl,
    fun f s W j l p q r a => gdo rfl rfl (a.says (d := 33) rfl rfl (l 2 rfl)) fun hgd0 => gv (by simp [go_sem, a.e 34 ((l 3 rfl).1 hgd0)]) rfl,
    fun f s W j l p q r a => opk (c := decide (((n : Int) + 1) ≤ 3000)) rfl rfl (fun hpk => by first | (simp [go_sem, hpk, a.e 33 (l 2 rfl)]; done) | (have hpk' := hpk; simp at hpk'; simp [go_sem, hpk', hpk, a.e 33 (l 2 rfl)])) (fun hpk => by first | (simp [go_sem, hpk, a.e 33 (l 2 rfl), a.e 35 ((l 4 rfl).1 hpk)]; done) | (have hpk' := hpk; simp at hpk'; simp [go_sem, hpk', hpk, a.e 33 (l 2 rfl), a.e 35 ((l 4 rfl).1 hpk)])), trivial⟩ ?_
    intro f9 s9 W9 hB9 g9 hg9
    have fB9 := hB9.f fB_26
    have z9 := hB9.below.size
    have b9_0 := hB9.b b_26_0
    have b9_1 := hB9.b b_26_1
    have b9_2 := hB9.b b_26_2
    have b9_3 := hB9.b m_26_0
    have q33' := (q27'.bw hB9)
    have q34' := (q28'.bw hB9)
    have q35' := (q29'.bw hB9)
    have q36' := (hB9.lt q30')
    have q37' := (hB9.lt q31')
    have q38' := (hB9.lt q32')
    refine hK13 _ _ ?_
    have k9_3 := kt hg9 3 k_26_3
    have k9_4 := kt hg9 4 k_26_4
    have k9_6 := kt hg9 6 k_26_6
    have k9_7 := kt hg9 7 k_26_7
    have k9_8 := kt hg9 8 k_26_8
    have k9_10 := kt hg9 10 k_26_10
    have k9_9 := kt hg9 9 k_26_9
    have k9_12 := kt hg9 12 k_26_12
    have k9_11 := kt hg9 11 k_26_11
    have k9_36 := kt hg9 36 (hB9.is 5)
    refine wp_cond_split (t := (decide (((n : Int) + 1) ≤ 3000)) && (decide (0 ≤ ((St i n).2)))) ((fr_eval rfl).trans k9_36) (fun hc14 => ?_) (fun hc14 => ?_)
    ·
      have fA10 : Below W9.heap.size W9 W9 := Below.refl _ _
      have hc14' := hc14; try simp only [ba] at hc14'
      have hn3 : n < 3000 := by have := hc14'.1; omega
      have h0 : 0 ≤ (St i n).2 := by have := hc14'.2; omega
      have hsk := hSk i n hi4 (by omega)
      have hpl := (good_nums hsk.1).1.1
      have lii := Nat.not_le.2 (show i < (St i n).1.panels.length by omega)
      refine wp_skip ?_
      refine hK12 _ _ ?_
      refine wp_seq_k fun K15 hK15 => ?_
      refine wp_block ?_
      refine wp_seq_k fun K16 hK16 => ?_
      refine region_dk 3 [(39, 0), (40, 1), (13, 2)] [[], [0], [], [0, 1, 2]] (rel [is (.agg #[.int .i64 ((St i n).1.tab), .slice (some ⟨ua, 0, none⟩) ((St i n).1.panels.length) (uc), .int .i64 ((St i n).1.height), .slice (some ⟨va, 0, none⟩) ((St i n).1.top.length) (vc), .slice (some ⟨xa, 0, none⟩) ((St i n).1.bottom.length) (xc), .int .i64 ((St i n).1.slot), .bool ((St i n).1.isOpen)]),
      fun v s W => OwBlk (s 1) ((St i n).1) v W,
      bx 2 #[.int .i64 0, .slice (none) (0) (0), .int .i64 0, .slice (none) (0) (0), .slice (none) (0) (0), .int .i64 0, .bool false] 24])
        ⟨is_k, ⟨fun v k W W' hb h => h.below hb, fun v s s' W e h => by have h' : OwBlk (s 1) ((St i n).1) v W := h; show OwBlk (s' 1) ((St i n).1) v W; rw [← e 1 (by simp)]; exact h'⟩, bx_k, trivial⟩
        ⟨fun f s W j l p q r a => by have aW := below_trans fA10 j; exact opv rfl rfl (by simp [go_sem, a.e 8 k9_8, cb b9_3 aW 0, cb b9_3 aW 1, cb b9_3 aW 2, cb b9_3 aW 3, cb b9_3 aW 4, cb b9_3 aW 5, cb b9_3 aW 6]) rfl,
    fun f s W j l p q r a => by have aW := below_trans fA10 j; exact opDo_call (args := #[.agg #[.int .i64 ((St i n).1.tab), .slice (some ⟨ua, 0, none⟩) ((St i n).1.panels.length) (uc), .int .i64 ((St i n).1.height), .slice (some ⟨va, 0, none⟩) ((St i n).1.top.length) (vc), .slice (some ⟨xa, 0, none⟩) ((St i n).1.bottom.length) (xc), .int .i64 ((St i n).1.slot), .bool ((St i n).1.isOpen)]]) rfl rfl (by simp [go_sem, a.e 39 (l 0 rfl)]) (copy_ow _ _ _ _ _ _ (St i n).1 W ((q33'.below aW (Nat.le_refl _))) ((q34'.below aW (Nat.le_refl _))) ((q35'.below aW (Nat.le_refl _))) hsk.1) (fun e W' h => by obtain ⟨v, e1, h1, h2⟩ := h; exact ⟨v, e1, h2, (show OwBlk (upd s 1 W.heap.size 1) ((St i n).1) v W' from by rw [upd_at]; exact h1)⟩),
    fun f s W j l p q r a => opb rfl rfl (by simp [go_sem]), trivial⟩ ?_
      intro f11 s11 W11 hB11 g11 hg11
      have fB11 := hB11.f fB9
      have z11 := hB11.below.size
      have fA11 := hB11.f fA10
      obtain ⟨g39', c42', g40', c43', g41', c44', r11_1, q45', q46', q47', q48', q49', q50'⟩ := hB11.is 1
      have la11_1 := hB11.from' 1 (by decide)
      have lo11_1_o0 := q45'.lim
      have q51' := q45'.low (B' := w.heap.size) (Nat.le_trans fB9.size (la11_1))
      have lo11_1_o1 := q46'.lim
      have q52' := q46'.low (B' := w.heap.size) (Nat.le_trans fB9.size (la11_1))
      have lo11_1_o2 := q47'.lim
      have q53' := q47'.low (B' := w.heap.size) (Nat.le_trans fB9.size (la11_1))
      obtain ⟨r11_2, br11_2⟩ := hB11.is 2
      have lr11_2 := hB11.lr 2 br11_2
      have oo11_1_o0_2 := hB11.off 1 2 (by decide) (by decide) (by decide) lo11_1_o0.1 (fun W h => (OwBlk.lt h r11_1).1) (fun _ _ _ h => lt_of_blk h.2)
      have oo11_1_o1_2 := hB11.off 1 2 (by decide) (by decide) (by decide) lo11_1_o1.1 (fun W h => (OwBlk.lt h r11_1).2.1) (fun _ _ _ h => lt_of_blk h.2)
      have oo11_1_o2_2 := hB11.off 1 2 (by decide) (by decide) (by decide) lo11_1_o2.1 (fun W h => (OwBlk.lt h r11_1).2.2) (fun _ _ _ h => lt_of_blk h.2)
      have k11_3 := kt hg11 3 k9_3
      have k11_4 := kt hg11 4 k9_4
      have k11_6 := kt hg11 6 k9_6
      have k11_7 := kt hg11 7 k9_7
      have k11_8 := kt hg11 8 k9_8
      have k11_10 := kt hg11 10 k9_10
      have k11_9 := kt hg11 9 k9_9
      have k11_12 := kt hg11 12 k9_12
      have k11_11 := kt hg11 11 k9_11
      have k11_40 := kt hg11 40 r11_1
      have k11_13 := kt hg11 13 r11_2
      obtain ⟨W12, hW12⟩ : ∃ W', W' = W11.setRow (s11 2) #[.int .i64 ((St i n).1.tab), .slice (some ⟨g39', 0, none⟩) ((St i n).1.panels.length) (c42'), .int .i64 ((St i n).1.height), .slice (some ⟨g40', 0, none⟩) ((St i n).1.top.length) (c43'), .slice (some ⟨g41', 0, none⟩) ((St i n).1.bottom.length) (c44'), .int .i64 ((St i n).1.slot), .bool ((St i n).1.isOpen)] := ⟨_, rfl⟩
      refine tail_skip (o := _) rfl ⟨rfl, rfl⟩ (run_seg hW12 (fr_ev k11_13) (fr_ev k11_40) br11_2 rfl rfl rfl rfl) ?_
      obtain ⟨fB12, nb12, ot12, z12⟩ := seg_facts hW12 fB11 br11_2 (by omega)
      have fA12 := (seg_facts hW12 fA11 br11_2 (by omega)).1
      clear hW12
      have q54' := q51'.other ot12 (by omega) z12
      have q55' := q52'.other ot12 (by omega) z12
      have q56' := q53'.other ot12 (by omega) z12
      refine wpOps_end ?_
      refine hK16 _ _ ?_
      refine wp_seq_k fun K17 hK17 => ?_
      refine region_dk 5 [(41, 0), (42, 1), (43, 2), (44, 3), (45, 4)] [[], [0], [], [], [0, 1, 2, 3], [0, 1, 2, 3, 4]] (rel [is (.pointer (some ⟨(s11 2), 1, none⟩)),
      is (.slice (some ⟨g39', 0, none⟩) ((St i n).1.panels.length) (c42')),
      is (.int .i64 ((i : Int))),
      is (.int .i64 ((n : Int) + 1)),
      is (.pointer (some ⟨g39', i, none⟩))])
        ⟨is_k, is_k, is_k, is_k, is_k, trivial⟩
        ⟨fun f s W j l p q r a => opv rfl rfl (by simp [go_sem, a.e 13 k11_13]) rfl,
    fun f s W j l p q r a => opv rfl rfl (by simp [go_sem, a.e 41 (l 0 rfl), cb nb12 j 1]) rfl,
    fun f s W j l p q r a => opv rfl rfl (by simp [go_sem, a.e 10 k11_10]) rfl,
    fun f s W j l p q r a => opv rfl rfl (by simp [go_sem, a.e 12 k11_12]) rfl,
    fun f s W j l p q r a => opv rfl rfl (by simp [go_sem, a.e 42 (l 1 rfl), a.e 43 (l 2 rfl), lii]) rfl, trivial⟩ ?_
      intro f13 s13 W13 hB13 g13 hg13
      have fB13 := hB13.f fB12
      have z13 := hB13.below.size
      have fA13 := hB13.f fA12
      have b13_4 := hB13.b nb12
      have q57' := (q54'.below hB13.below)
      have q58' := (q55'.below hB13.below)
      have q59' := (q56'.below hB13.below)
      have k13_3 := kt hg13 3 k11_3
      have k13_4 := kt hg13 4 k11_4
      have k13_6 := kt hg13 6 k11_6
      have k13_7 := kt hg13 7 k11_7
      have k13_8 := kt hg13 8 k11_8
      have k13_10 := kt hg13 10 k11_10
      have k13_9 := kt hg13 9 k11_9
      have k13_12 := kt hg13 12 k11_12
      have k13_11 := kt hg13 11 k11_11
      have k13_13 := kt hg13 13 k11_13
      have k13_44 := kt hg13 44 (hB13.is 3)
      have k13_45 := kt hg13 45 (hB13.is 4)
      obtain ⟨W14, st14, ow14, ot14, z14, fB14, ax14⟩ := storeIA_tail (c := c42') (i := i) (x := (n : Int) + 1) (((St i n).1.panels).set i ((n : Int) + 1)) (by omega) rfl fB13 q57'
      refine tail_skip (o := _) rfl ⟨rfl, rfl⟩ (st14 (fr_ev k13_45) (fr_ev k13_44)) ?_
      have fA14 := ax14 _ fA13 (by omega)
      have b14_4 := ot14 _ _ (by omega) b13_4
      have q60' := q58'.other ot14 (by omega) z14
      have q61' := q59'.other ot14 (by omega) z14
      refine wpOps_end ?_
      refine hK17 _ _ ?_
      refine wp_seq_k fun K18 hK18 => ?_
      refine wp_seq_k fun K19 hK19 => ?_
      refine region_dk 7 [(46, 0), (47, 1), (48, 2), (49, 3), (50, 4), (51, 5), (52, 6)] [[], [], [], [], [3], [0, 1, 2, 3, 4], [0, 1, 2, 3, 4, 5]] (rel [is (.agg #[.int .i64 ((St i n).1.tab), .slice (some ⟨g39', 0, none⟩) ((St i n).1.panels.length) (c42'), .int .i64 ((St i n).1.height), .slice (some ⟨g40', 0, none⟩) ((St i n).1.top.length) (c43'), .slice (some ⟨g41', 0, none⟩) ((St i n).1.bottom.length) (c44'), .int .i64 ((St i n).1.slot), .bool ((St i n).1.isOpen)]),
      is (.agg #[.int .i64 vi.length.1, .int .i64 vi.length.2, .int .i64 vi.width.1, .int .i64 vi.width.2, .int .i64 vi.height.1, .int .i64 vi.height.2, .int .i64 vi.outer.1, .int .i64 vi.outer.2, .int .i64 vi.inner.1, .int .i64 vi.inner.2, .bool vi.isOpen]),
      is (.agg #[.int .i64 lo, .int .i64 hi]),
      is (.int .i64 ((i : Int))),
      row 4 1 #[.int .i64 ((i : Int))] 3,
      is (.bool (alwR (setP (St i n).1 i ((n : Int) + 1)) vi (lo, hi) i)),
      is (.bool (!(alwR (setP (St i n).1 i ((n : Int) + 1)) vi (lo, hi) i)))])
        ⟨is_k, is_k, is_k, is_k, row_k, is_k, is_k, trivial⟩
        ⟨fun f s W j l p q r a => opv rfl rfl (by simp [go_sem, a.e 13 k13_13, cb b14_4 j 0, cb b14_4 j 1, cb b14_4 j 2, cb b14_4 j 3, cb b14_4 j 4, cb b14_4 j 5, cb b14_4 j 6]) rfl,
    fun f s W j l p q r a => by have aW := below_trans fA14 j; exact opv rfl rfl (by simp [go_sem, a.e 3 k13_3, cb b9_0 aW 0, cb b9_0 aW 1, cb b9_0 aW 2, cb b9_0 aW 3, cb b9_0 aW 4, cb b9_0 aW 5, cb b9_0 aW 6, cb b9_0 aW 7, cb b9_0 aW 8, cb b9_0 aW 9, cb b9_0 aW 10]) rfl,
    fun f s W j l p q r a => by have aW := below_trans fA14 j; exact opv rfl rfl (by simp [go_sem, a.e 4 k13_4, cb b9_1 aW 0, cb b9_1 aW 1]) rfl,
    fun f s W j l p q r a => opv rfl rfl (by simp [go_sem, a.e 10 k13_10]) rfl,
    fun f s W j l p q r a => opr rfl rfl (by simp [go_sem, a.e 49 (l 3 rfl)]),
    fun f s W j l p q r a => opc (args := #[.agg #[.int .i64 ((St i n).1.tab), .slice (some ⟨g39', 0, none⟩) ((St i n).1.panels.length) (c42'), .int .i64 ((St i n).1.height), .slice (some ⟨g40', 0, none⟩) ((St i n).1.top.length) (c43'), .slice (some ⟨g41', 0, none⟩) ((St i n).1.bottom.length) (c44'), .int .i64 ((St i n).1.slot), .bool ((St i n).1.isOpen)], .agg #[.int .i64 vi.length.1, .int .i64 vi.length.2, .int .i64 vi.width.1, .int .i64 vi.width.2, .int .i64 vi.height.1, .int .i64 vi.height.2, .int .i64 vi.outer.1, .int .i64 vi.outer.2, .int .i64 vi.inner.1, .int .i64 vi.inner.2, .bool vi.isOpen], .agg #[.int .i64 lo, .int .i64 hi], .slice (some ⟨(s 4), 0, none⟩) (1) (1)]) rfl rfl (by simp [go_sem, a.e 46 (l 0 rfl), a.e 47 (l 1 rfl), a.e 48 (l 2 rfl), a.e 50 (l 4 rfl).1]) (always_blk (b := (setP (St i n).1 i ((n : Int) + 1))) vi i (i : Int) lo hi _ _ W ⟨_, _, _, _, _, _, _, _, _, rfl, (OwnI.iin (n := (St i n).1.panels.length) ((ow14.below j)) (List.length_set ..)), (OwnI.iin (n := (St i n).1.top.length) ((q60'.below j)) rfl), (OwnI.iin (n := (St i n).1.bottom.length) ((q61'.below j)) rfl)⟩ (ii_block (xs := [(i : Int)]) (l 4 rfl).2 rfl rfl) (setP_ok hsk.1 i ⟨by omega, by omega⟩) hw rfl (by omega) gl glh gh),
    fun f s W j l p q r a => opv rfl rfl (by simp [go_sem, a.e 51 (l 5 rfl)]) rfl, trivial⟩ ?_
      intro f15 s15 W15 hB15 g15 hg15
      have fB15 := hB15.f fB14
      have z15 := hB15.below.size
      have fA15 := hB15.f fA14
      have b15_4 := hB15.b b14_4
      have q62' := (q60'.below hB15.below)
      have q63' := (q61'.below hB15.below)
      have q64' := (ow14.below hB15.below)
      obtain ⟨r15_4, br15_4⟩ := hB15.is 4
      have lr15_4 := hB15.lr 4 br15_4
      refine hK19 _ _ ?_
      have k15_3 := kt hg15 3 k13_3
      have k15_4 := kt hg15 4 k13_4
      have k15_6 := kt hg15 6 k13_6
      have k15_7 := kt hg15 7 k13_7
      have k15_8 := kt hg15 8 k13_8
      have k15_10 := kt hg15 10 k13_10
      have k15_9 := kt hg15 9 k13_9
      have k15_12 := kt hg15 12 k13_12
      have k15_11 := kt hg15 11 k13_11
      have k15_13 := kt hg15 13 k13_13
      have k15_52 := kt hg15 52 (hB15.is 6)
      refine wp_cond_split (t := !(alwR (setP (St i n).1 i ((n : Int) + 1)) vi (lo, hi) i)) ((fr_eval rfl).trans k15_52) (fun hc20 => ?_) (fun hc20 => ?_)
      ·
        have hc20' := hc20; try simp only [ba] at hc20'
        refine wp_exit ?_
        refine then_exit ?_
        refine inBlock_at ?_
        refine hK15 _ _ ?_
        refine region_dk 3 [(37, 0), (38, 1), (12, 2)] [[], [0], [0, 1]] (rel [is (.int .i64 ((n : Int) + 1)),
      is (.int .i64 (((n : Int) + 1) + 1)),
      is (.int .i64 (((n : Int) + 1) + 1))])
          ⟨is_k, is_k, is_k, trivial⟩
          ⟨fun f s W j l p q r a => opv rfl rfl (by simp [go_sem, a.e 12 ((q 2 12 rfl rfl).trans k15_12)]) rfl,
    fun f s W j l p q r a => opv rfl rfl (by simp [go_sem, a.e 37 (l 0 rfl), IntWalk.i64_in (((n : Int) + 1) + 1) (by omega)]) rfl,
    fun f s W j l p q r a => opv rfl rfl (by simp [go_sem, a.e 38 (l 1 rfl)]) rfl, trivial⟩ ?_
        intro f16 s16 W16 hB16 g16 hg16
        have fB16 := hB16.f fB15
        have z16 := hB16.below.size
        have fA16 := hB16.f fA15
        have b16_4 := hB16.b b15_4
        have b16_5 := hB16.b br15_4
        have q65' := (q62'.below hB16.below)
        have q66' := (q63'.below hB16.below)
        have q67' := (q64'.below hB16.below)
        refine wpOps_end ?_
        have k16_3 := kt hg16 3 k15_3
        have k16_4 := kt hg16 4 k15_4
        have k16_6 := kt hg16 6 k15_6
        have k16_7 := kt hg16 7 k15_7
        have k16_8 := kt hg16 8 k15_8
        have k16_10 := kt hg16 10 k15_10
        have k16_9 := kt hg16 9 k15_9
        have k16_11 := kt hg16 11 k15_11
        have k16_12 := kt hg16 12 (hB16.is 2)
        refine then_normal ?_
        have q68' := (q33'.below fA16 (Nat.le_refl _))
        have q69' := (q34'.below fA16 (Nat.le_refl _))
        have q70' := (q35'.below fA16 (Nat.le_refl _))
        have q71' := (Nat.lt_of_lt_of_le q36' (Below.size fA16))
        have q72' := (Nat.lt_of_lt_of_le q37' (Below.size fA16))
        have q73' := (Nat.lt_of_lt_of_le q38' (Below.size fA16))
        have bl74' := blk_below b9_0 fA16
        have bl75' := blk_below b9_1 fA16
        have bl76' := blk_below b9_2 fA16
        have bl77' := blk_below b9_3 fA16
        have hnx : St i (n + 1) = St i n := by rw [hSn i n h0]; exact next_no (by simpa using hc20)
        exact ⟨_, by omega, g16, rfl, n + 1, ua, uc, va, vc, xa, xc, rfl, k16_3, k16_4, k16_6, k16_7, k16_8, k16_10, k16_9, k16_12.trans (by go_num), k16_11.trans (by rw [hnx]), fB16, (by omega), bl74', bl75', bl76', (by rw [hnx]; exact bl77'), (by rw [hnx]; exact q68'), (by rw [hnx]; exact q69'), (by rw [hnx]; exact q70'), q71', q72', q73', (by omega), (by omega), (by omega), (by omega), (by omega), (by omega), (by omega), (by omega), (by omega), (by omega)⟩
      ·
        have hc20' := hc20; try simp only [ba] at hc20'
        refine wp_skip ?_
        refine hK18 _ _ ?_
        refine wp_seq_k fun K21 hK21 => ?_
        refine wp_seq_k fun K22 hK22 => ?_
        refine region_dk 2 [(53, 0), (54, 1)] [[], [0]] (rel [is (.int .i64 ((i : Int))),
      is (.bool (decide (1 < (i : Int))))])
          ⟨is_k, is_k, trivial⟩
          ⟨fun f s W j l p q r a => opv rfl rfl (by simp [go_sem, a.e 10 k15_10]) rfl,
    fun f s W j l p q r a => opv rfl rfl (by simp [go_sem, a.e 53 (l 0 rfl)]) rfl, trivial⟩ ?_
        intro f17 s17 W17 hB17 g17 hg17
        have fB17 := hB17.f fB15
        have z17 := hB17.below.size
        have fA17 := hB17.f fA15
        have b17_4 := hB17.b b15_4
        have b17_5 := hB17.b br15_4
        have q78' := (q62'.below hB17.below)
        have q79' := (q63'.below hB17.below)
        have q80' := (q64'.below hB17.below)
        refine hK22 _ _ ?_
        have k17_3 := kt hg17 3 k15_3
        have k17_4 := kt hg17 4 k15_4
        have k17_6 := kt hg17 6 k15_6
        have k17_7 := kt hg17 7 k15_7
        have k17_8 := kt hg17 8 k15_8
        have k17_10 := kt hg17 10 k15_10
        have k17_9 := kt hg17 9 k15_9
        have k17_12 := kt hg17 12 k15_12
        have k17_11 := kt hg17 11 k15_11
        have k17_13 := kt hg17 13 k15_13
        have k17_54 := kt hg17 54 (hB17.is 1)
        refine wp_cond_split (t := decide (1 < (i : Int))) ((fr_eval rfl).trans k17_54) (fun hc23 => ?_) (fun hc23 => ?_)
        ·
          have hc23' := hc23; try simp only [ba] at hc23'
          have hi2' : 1 < i := by omega
          refine wp_seq_k fun K24 hK24 => ?_
          refine region_dk 1 [(55, 0), (11, 2)] [[], [0], [0, 1]] (rel [is (.agg #[.int .i64 ((St i n).1.tab), .slice (some ⟨g39', 0, none⟩) ((St i n).1.panels.length) (c42'), .int .i64 ((St i n).1.height), .slice (some ⟨g40', 0, none⟩) ((St i n).1.top.length) (c43'), .slice (some ⟨g41', 0, none⟩) ((St i n).1.bottom.length) (c44'), .int .i64 ((St i n).1.slot), .bool ((St i n).1.isOpen)])])
            ⟨is_k, trivial⟩
            ⟨fun f s W j l p q r a => opv rfl rfl (by simp [go_sem, a.e 13 k17_13, cb b17_4 j 0, cb b17_4 j 1, cb b17_4 j 2, cb b17_4 j 3, cb b17_4 j 4, cb b17_4 j 5, cb b17_4 j 6]) rfl, trivial⟩ ?_
          intro f18 s18 W18 hB18 g18 hg18
          have fB18 := hB18.f fB17
          have z18 := hB18.below.size
          have fA18 := hB18.f fA17
          have b18_4 := hB18.b b17_4
          have b18_5 := hB18.b b17_5
          have q81' := (q78'.below hB18.below)
          have q82' := (q79'.below hB18.below)
          have q83' := (q80'.below hB18.below)
          have k18_3 := kt hg18 3 k17_3
          have k18_4 := kt hg18 4 k17_4
          have k18_6 := kt hg18 6 k17_6
          have k18_7 := kt hg18 7 k17_7
          have k18_8 := kt hg18 8 k17_8
          have k18_10 := kt hg18 10 k17_10
          have k18_9 := kt hg18 9 k17_9
          have k18_12 := kt hg18 12 k17_12
          have k18_13 := kt hg18 13 k17_13
          have k18_55 := kt hg18 55 (hB18.is 0)
          have q84' := (q33'.below fA18 (Nat.le_refl _))
          have q85' := (q34'.below fA18 (Nat.le_refl _))
          have q86' := (q35'.below fA18 (Nat.le_refl _))
          have q87' := (Nat.lt_of_lt_of_le q36' (Below.size fA18))
          have q88' := (Nat.lt_of_lt_of_le q37' (Below.size fA18))
          have q89' := (Nat.lt_of_lt_of_le q38' (Below.size fA18))
          have bl90' := blk_below b9_0 fA18
          have bl91' := blk_below b9_1 fA18
          have bl92' := blk_below b9_2 fA18
          have bl93' := blk_below b9_3 fA18
          obtain ⟨W19, hW19⟩ : ∃ W', W' = W18.setRow (s2 7) #[.int .i64 ((St i n).1.tab), .slice (some ⟨g39', 0, none⟩) ((St i n).1.panels.length) (c42'), .int .i64 ((St i n).1.height), .slice (some ⟨g40', 0, none⟩) ((St i n).1.top.length) (c43'), .slice (some ⟨g41', 0, none⟩) ((St i n).1.bottom.length) (c44'), .int .i64 ((St i n).1.slot), .bool ((St i n).1.isOpen)] := ⟨_, rfl⟩
          refine tail_skip (o := _) rfl ⟨rfl, rfl⟩ (run_seg hW19 (fr_ev k18_8) (fr_ev k18_55) bl93' rfl rfl rfl rfl) ?_
          obtain ⟨fB19, nb19, ot19, z19⟩ := seg_facts hW19 fB18 bl93' (by omega)
          clear hW19
          have b19_0 := ot19 _ _ (by omega) bl90'
          have b19_1 := ot19 _ _ (by omega) bl91'
          have b19_2 := ot19 _ _ (by omega) bl92'
          have b19_4 := ot19 _ _ (by omega) b18_4
          have b19_5 := ot19 _ _ (by omega) b18_5
          have q94' := (q84'.other ot19 q87' (by omega) z19)
          have q95' := (q85'.other ot19 q88' (by omega) z19)
          have q96' := (q86'.other ot19 q89' (by omega) z19)
          have q97' := Nat.lt_of_lt_of_le q87' z19
          have q98' := Nat.lt_of_lt_of_le q88' z19
          have q99' := Nat.lt_of_lt_of_le q89' z19
          have q100' := q81'.other ot19 (by omega) z19
          have q101' := q82'.other ot19 (by omega) z19
          have q102' := q83'.other ot19 (by omega) z19
          refine tail_value (o := _) rfl rfl rfl (v := .int .i64 (-1)) (by simp [go_sem]) ?_
          generalize hg20 : upd g18 11 (.int .i64 (-1)) = g20
          have k20_3 := ku hg20 3 k18_3
          have k20_4 := ku hg20 4 k18_4
          have k20_6 := ku hg20 6 k18_6
          have k20_7 := ku hg20 7 k18_7
          have k20_8 := ku hg20 8 k18_8
          have k20_10 := ku hg20 10 k18_10
          have k20_9 := ku hg20 9 k18_9
          have k20_12 := ku hg20 12 k18_12
          have k20_13 := ku hg20 13 k18_13
          have k20_11 := kt hg20 11 (upd_same _ _ _)
          refine wpOps_end ?_
          refine hK24 _ _ ?_
          refine wp_exit ?_
          refine then_exit ?_
          refine inBlock_at ?_
          refine hK15 _ _ ?_
          refine region_dk 3 [(37, 0), (38, 1), (12, 2)] [[], [0], [0, 1]] (rel [is (.int .i64 ((n : Int) + 1)),
      is (.int .i64 (((n : Int) + 1) + 1)),
      is (.int .i64 (((n : Int) + 1) + 1))])
            ⟨is_k, is_k, is_k, trivial⟩
            ⟨fun f s W j l p q r a => opv rfl rfl (by simp [go_sem, a.e 12 ((q 2 12 rfl rfl).trans k20_12)]) rfl,
    fun f s W j l p q r a => opv rfl rfl (by simp [go_sem, a.e 37 (l 0 rfl), IntWalk.i64_in (((n : Int) + 1) + 1) (by omega)]) rfl,
    fun f s W j l p q r a => opv rfl rfl (by simp [go_sem, a.e 38 (l 1 rfl)]) rfl, trivial⟩ ?_
          intro f21 s21 W21 hB21 g21 hg21
          have fB21 := hB21.f fB19
          have z21 := hB21.below.size
          have b21_0 := hB21.b b19_0
          have b21_1 := hB21.b b19_1
          have b21_2 := hB21.b b19_2
          have b21_3 := hB21.b nb19
          have b21_4 := hB21.b b19_4
          have b21_5 := hB21.b b19_5
          have q103' := (q94'.bw hB21)
          have q104' := (q95'.bw hB21)
          have q105' := (q96'.bw hB21)
          have q106' := (hB21.lt q97')
          have q107' := (hB21.lt q98')
          have q108' := (hB21.lt q99')
          have q109' := (q100'.below hB21.below)
          have q110' := (q101'.below hB21.below)
          have q111' := (q102'.below hB21.below)
          refine wpOps_end ?_
          have k21_3 := kt hg21 3 k20_3
          have k21_4 := kt hg21 4 k20_4
          have k21_6 := kt hg21 6 k20_6
          have k21_7 := kt hg21 7 k20_7
          have k21_8 := kt hg21 8 k20_8
          have k21_10 := kt hg21 10 k20_10
          have k21_9 := kt hg21 9 k20_9
          have k21_11 := kt hg21 11 k20_11
          have k21_12 := kt hg21 12 (hB21.is 2)
          refine then_normal ?_
          have hnx : St i (n + 1) = ((setP (St i n).1 i ((n : Int) + 1)), -1) := by rw [hSn i n h0]; exact next_far (by simpa using hc20) (by omega)
          have hnl : (St i (n + 1)).1.panels.length = (St i n).1.panels.length := by rw [hnx]; exact List.length_set ..
          exact ⟨_, by omega, g21, rfl, n + 1, g39', c42', g40', c43', g41', c44', rfl, k21_3, k21_4, k21_6, k21_7, k21_8, k21_10, k21_9, k21_12.trans (by go_num), k21_11.trans (by rw [hnx]), fB21, (by omega), b21_0, b21_1, b21_2, (by rw [hnl, hnx]; exact b21_3), (by rw [hnl, hnx]; exact OwnI.iin (n := (St i n).1.panels.length) q111' (List.length_set ..)), (by rw [hnx]; exact (OwnI.ii q109')), (by rw [hnx]; exact (OwnI.ii q110')), q111'.lim.2, q109'.lim.2, q110'.lim.2, (by omega), (by omega), (by omega), (by omega), (by omega), (by omega), (by omega), (by omega), (by omega), (by omega)⟩
        ·
          have hc23' := hc23; try simp only [ba] at hc23'
          have hi2 : ¬ 1 < i := by omega
          obtain hfq | ⟨fq, hfq⟩ : flapQ (setP (St i n).1 i ((n : Int) + 1)) vi (lo, hi) (1 - i) = none ∨ ∃ f, flapQ (setP (St i n).1 i ((n : Int) + 1)) vi (lo, hi) (1 - i) = some f := by cases flapQ (setP (St i n).1 i ((n : Int) + 1)) vi (lo, hi) (1 - i) with | none => exact .inl rfl | some f => exact .inr ⟨f, rfl⟩
          ·
            refine wp_skip ?_
            refine hK21 _ _ ?_
            refine wp_seq_k fun K25 hK25 => ?_
            refine region_dk 11 [(57, 0), (58, 1), (59, 2), (60, 3), (61, 4), (62, 5), (56, 6), (63, 7), (64, 8), (65, 9), (14, 10), (15, 12), (16, 13)] [[], [], [], [], [3], [0, 1, 2, 3, 4], [0, 1, 2, 3, 4, 5], [0, 1, 2, 3, 4, 5, 6], [0, 1, 2, 3, 4, 5, 6], [0, 1, 2, 3, 4, 5, 6], [], [0, 1, 2, 3, 4, 5, 6, 7, 10], [0, 1, 2, 3, 4, 5, 6, 7, 8, 10, 11], [0, 1, 2, 3, 4, 5, 6, 7, 8, 9, 10, 11, 12]] (rel [is (.agg #[.int .i64 ((St i n).1.tab), .slice (some ⟨g39', 0, none⟩) ((St i n).1.panels.length) (c42'), .int .i64 ((St i n).1.height), .slice (some ⟨g40', 0, none⟩) ((St i n).1.top.length) (c43'), .slice (some ⟨g41', 0, none⟩) ((St i n).1.bottom.length) (c44'), .int .i64 ((St i n).1.slot), .bool ((St i n).1.isOpen)]),
      is (.agg #[.int .i64 vi.length.1, .int .i64 vi.length.2, .int .i64 vi.width.1, .int .i64 vi.width.2, .int .i64 vi.height.1, .int .i64 vi.height.2, .int .i64 vi.outer.1, .int .i64 vi.outer.2, .int .i64 vi.inner.1, .int .i64 vi.inner.2, .bool vi.isOpen]),
      is (.agg #[.int .i64 lo, .int .i64 hi]),
      is (.int .i64 ((i : Int))),
      is (.int .i64 (1 - (i : Int))),
      is (.tuple #[.agg #[.int .i64 ((St i n).1.tab), .slice (some ⟨g39', 0, none⟩) ((St i n).1.panels.length) (c42'), .int .i64 ((St i n).1.height), .slice (some ⟨g40', 0, none⟩) ((St i n).1.top.length) (c43'), .slice (some ⟨g41', 0, none⟩) ((St i n).1.bottom.length) (c44'), .int .i64 ((St i n).1.slot), .bool ((St i n).1.isOpen)], .int .i64 (if vi.isOpen = true then 7 + ((1 - i : Nat) : Int) else 5 + ((1 - i : Nat) : Int)), .bool false]),
      is (.tuple #[.agg #[.int .i64 ((St i n).1.tab), .slice (some ⟨g39', 0, none⟩) ((St i n).1.panels.length) (c42'), .int .i64 ((St i n).1.height), .slice (some ⟨g40', 0, none⟩) ((St i n).1.top.length) (c43'), .slice (some ⟨g41', 0, none⟩) ((St i n).1.bottom.length) (c44'), .int .i64 ((St i n).1.slot), .bool ((St i n).1.isOpen)], .int .i64 (if vi.isOpen = true then 7 + ((1 - i : Nat) : Int) else 5 + ((1 - i : Nat) : Int)), .bool false]),
      is (.agg #[.int .i64 ((St i n).1.tab), .slice (some ⟨g39', 0, none⟩) ((St i n).1.panels.length) (c42'), .int .i64 ((St i n).1.height), .slice (some ⟨g40', 0, none⟩) ((St i n).1.top.length) (c43'), .slice (some ⟨g41', 0, none⟩) ((St i n).1.bottom.length) (c44'), .int .i64 ((St i n).1.slot), .bool ((St i n).1.isOpen)]),
      is (.int .i64 (if vi.isOpen = true then 7 + ((1 - i : Nat) : Int) else 5 + ((1 - i : Nat) : Int))),
      is (.bool false),
      bx 10 #[.int .i64 0, .slice (none) (0) (0), .int .i64 0, .slice (none) (0) (0), .slice (none) (0) (0), .int .i64 0, .bool false] 24])
              ⟨is_k, is_k, is_k, is_k, is_k, is_k, is_k, is_k, is_k, is_k, bx_k, trivial⟩
              ⟨fun f s W j l p q r a => opv rfl rfl (by simp [go_sem, a.e 13 k17_13, cb b17_4 j 0, cb b17_4 j 1, cb b17_4 j 2, cb b17_4 j 3, cb b17_4 j 4, cb b17_4 j 5, cb b17_4 j 6]) rfl,
    fun f s W j l p q r a => by have aW := below_trans fA17 j; exact opv rfl rfl (by simp [go_sem, a.e 3 k17_3, cb b9_0 aW 0, cb b9_0 aW 1, cb b9_0 aW 2, cb b9_0 aW 3, cb b9_0 aW 4, cb b9_0 aW 5, cb b9_0 aW 6, cb b9_0 aW 7, cb b9_0 aW 8, cb b9_0 aW 9, cb b9_0 aW 10]) rfl,
    fun f s W j l p q r a => by have aW := below_trans fA17 j; exact opv rfl rfl (by simp [go_sem, a.e 4 k17_4, cb b9_1 aW 0, cb b9_1 aW 1]) rfl,
    fun f s W j l p q r a => opv rfl rfl (by simp [go_sem, a.e 10 k17_10]) rfl,
    fun f s W j l p q r a => opv rfl rfl (by simp [go_sem, a.e 60 (l 3 rfl), IntWalk.i64_in (1 - (i : Int)) (by omega)]) rfl,
    fun f s W j l p q r a => opDo_call (args := #[.agg #[.int .i64 ((St i n).1.tab), .slice (some ⟨g39', 0, none⟩) ((St i n).1.panels.length) (c42'), .int .i64 ((St i n).1.height), .slice (some ⟨g40', 0, none⟩) ((St i n).1.top.length) (c43'), .slice (some ⟨g41', 0, none⟩) ((St i n).1.bottom.length) (c44'), .int .i64 ((St i n).1.slot), .bool ((St i n).1.isOpen)], .agg #[.int .i64 vi.length.1, .int .i64 vi.length.2, .int .i64 vi.width.1, .int .i64 vi.width.2, .int .i64 vi.height.1, .int .i64 vi.height.2, .int .i64 vi.outer.1, .int .i64 vi.outer.2, .int .i64 vi.inner.1, .int .i64 vi.inner.2, .bool vi.isOpen], .agg #[.int .i64 lo, .int .i64 hi], .int .i64 (1 - (i : Int))]) rfl rfl (by simp [go_sem, a.e 57 (l 0 rfl), a.e 58 (l 1 rfl), a.e 59 (l 2 rfl), a.e 61 (l 4 rfl)]) (flap_refb (b := (setP (St i n).1 i ((n : Int) + 1))) vi (1 - i) (1 - (i : Int)) lo hi W ⟨_, _, _, _, _, _, _, _, _, rfl, (OwnI.iin (n := (St i n).1.panels.length) ((q80'.below j)) (List.length_set ..)), (OwnI.iin (n := (St i n).1.top.length) ((q78'.below j)) rfl), (OwnI.iin (n := (St i n).1.bottom.length) ((q79'.below j)) rfl)⟩ (setP_ok hsk.1 i ⟨by omega, by omega⟩) hw (by omega) (by omega) gl glh gh) (fun e W' h => ⟨_, (h.2 hfq).1, (h.2 hfq).2, rfl⟩),
    fun f s W j l p q r a => opv rfl rfl (by simp [go_sem, a.e 62 (l 5 rfl)]) rfl,
    fun f s W j l p q r a => opv rfl rfl (by simp [go_sem, a.e 56 (l 6 rfl)]) rfl,
    fun f s W j l p q r a => opv rfl rfl (by simp [go_sem, a.e 56 (l 6 rfl)]) rfl,
    fun f s W j l p q r a => opv rfl rfl (by simp [go_sem, a.e 56 (l 6 rfl)]) rfl,
    fun f s W j l p q r a => opb rfl rfl (by simp [go_sem]), trivial⟩ ?_
            intro f22 s22 W22 hB22 g22 hg22
            have fB22 := hB22.f fB17
            have z22 := hB22.below.size
            have fA22 := hB22.f fA17
            have b22_4 := hB22.b b17_4
            have b22_5 := hB22.b b17_5
            have q112' := (q78'.below hB22.below)
            have q113' := (q79'.below hB22.below)
            have q114' := (q80'.below hB22.below)
            obtain ⟨r22_10, br22_10⟩ := hB22.is 10
            have lr22_10 := hB22.lr 10 br22_10
            have k22_3 := kt hg22 3 k17_3
            have k22_4 := kt hg22 4 k17_4
            have k22_6 := kt hg22 6 k17_6
            have k22_7 := kt hg22 7 k17_7
            have k22_8 := kt hg22 8 k17_8
            have k22_10 := kt hg22 10 k17_10
            have k22_9 := kt hg22 9 k17_9
            have k22_12 := kt hg22 12 k17_12
            have k22_11 := kt hg22 11 k17_11
            have k22_63 := kt hg22 63 (hB22.is 7)
            have k22_64 := kt hg22 64 (hB22.is 8)
            have k22_65 := kt hg22 65 (hB22.is 9)
            have k22_14 := kt hg22 14 r22_10
            obtain ⟨W23, hW23⟩ : ∃ W', W' = W22.setRow (s22 10) #[.int .i64 ((St i n).1.tab), .slice (some ⟨g39', 0, none⟩) ((St i n).1.panels.length) (c42'), .int .i64 ((St i n).1.height), .slice (some ⟨g40', 0, none⟩) ((St i n).1.top.length) (c43'), .slice (some ⟨g41', 0, none⟩) ((St i n).1.bottom.length) (c44'), .int .i64 ((St i n).1.slot), .bool ((St i n).1.isOpen)] := ⟨_, rfl⟩
            refine tail_skip (o := _) rfl ⟨rfl, rfl⟩ (run_seg hW23 (fr_ev k22_14) (fr_ev k22_63) br22_10 rfl rfl rfl rfl) ?_
            obtain ⟨fB23, nb23, ot23, z23⟩ := seg_facts hW23 fB22 br22_10 (by omega)
            have fA23 := (seg_facts hW23 fA22 br22_10 (by omega)).1
            clear hW23
            have b23_4 := ot23 _ _ (by omega) b22_4
            have b23_5 := ot23 _ _ (by omega) b22_5
            have q115' := q112'.other ot23 (by omega) z23
            have q116' := q113'.other ot23 (by omega) z23
            have q117' := q114'.other ot23 (by omega) z23
            refine tail_value (o := _) rfl rfl rfl (v := .int .i64 (if vi.isOpen = true then 7 + ((1 - i : Nat) : Int) else 5 + ((1 - i : Nat) : Int))) (by simp [go_sem, frv 112 k22_64]) ?_
            generalize hg24 : upd g22 15 (.int .i64 (if vi.isOpen = true then 7 + ((1 - i : Nat) : Int) else 5 + ((1 - i : Nat) : Int))) = g24
            have k24_3 := ku hg24 3 k22_3
            have k24_4 := ku hg24 4 k22_4
            have k24_6 := ku hg24 6 k22_6
            have k24_7 := ku hg24 7 k22_7
            have k24_8 := ku hg24 8 k22_8
            have k24_10 := ku hg24 10 k22_10
            have k24_9 := ku hg24 9 k22_9
            have k24_12 := ku hg24 12 k22_12
            have k24_11 := ku hg24 11 k22_11
            have k24_65 := ku hg24 65 k22_65
            have k24_14 := ku hg24 14 k22_14
            have k24_15 := kt hg24 15 (upd_same _ _ _)
            refine tail_value (o := _) rfl rfl rfl (v := .bool false) (by simp [go_sem, frv 112 k24_65]) ?_
            generalize hg25 : upd g24 16 (.bool false) = g25
            have k25_3 := ku hg25 3 k24_3
            have k25_4 := ku hg25 4 k24_4
            have k25_6 := ku hg25 6 k24_6
            have k25_7 := ku hg25 7 k24_7
            have k25_8 := ku hg25 8 k24_8
            have k25_10 := ku hg25 10 k24_10
            have k25_9 := ku hg25 9 k24_9
            have k25_12 := ku hg25 12 k24_12
            have k25_11 := ku hg25 11 k24_11
            have k25_14 := ku hg25 14 k24_14
            have k25_15 := ku hg25 15 k24_15
            have k25_16 := kt hg25 16 (upd_same _ _ _)
            refine wpOps_end ?_
            refine hK25 _ _ ?_
            refine wp_seq_k fun K26 hK26 => ?_
            refine region_dk 1 [(66, 0)] [[]] (rel [is (.bool false)])
              ⟨is_k, trivial⟩
              ⟨fun f s W j l p q r a => opv rfl rfl (by simp [go_sem, a.e 16 k25_16]) rfl, trivial⟩ ?_
            intro f26 s26 W26 hB26 g26 hg26
            have fB26 := hB26.f fB23
            have z26 := hB26.below.size
            have fA26 := hB26.f fA23
            have b26_4 := hB26.b b23_4
            have b26_5 := hB26.b b23_5
            have b26_6 := hB26.b nb23
            have q118' := (q115'.below hB26.below)
            have q119' := (q116'.below hB26.below)
            have q120' := (q117'.below hB26.below)
            refine hK26 _ _ ?_
            have k26_3 := kt hg26 3 k25_3
            have k26_4 := kt hg26 4 k25_4
            have k26_6 := kt hg26 6 k25_6
            have k26_7 := kt hg26 7 k25_7
            have k26_8 := kt hg26 8 k25_8
            have k26_10 := kt hg26 10 k25_10
            have k26_9 := kt hg26 9 k25_9
            have k26_12 := kt hg26 12 k25_12
            have k26_11 := kt hg26 11 k25_11
            have k26_14 := kt hg26 14 k25_14
            have k26_15 := kt hg26 15 k25_15
            have k26_66 := kt hg26 66 (hB26.is 0)
            refine wp_cond_false ((fr_eval rfl).trans k26_66) ?_
            refine region_dk 2 [(68, 0), (11, 1)] [[], [0]] (rel [is (.int .i64 (if vi.isOpen = true then 7 + ((1 - i : Nat) : Int) else 5 + ((1 - i : Nat) : Int))),
      is (.int .i64 (if vi.isOpen = true then 7 + ((1 - i : Nat) : Int) else 5 + ((1 - i : Nat) : Int)))])
              ⟨is_k, is_k, trivial⟩
              ⟨fun f s W j l p q r a => opv rfl rfl (by simp [go_sem, a.e 15 k26_15]) rfl,
    fun f s W j l p q r a => opv rfl rfl (by simp [go_sem, a.e 68 (l 0 rfl)]) rfl, trivial⟩ ?_
            intro f27 s27 W27 hB27 g27 hg27
            have fB27 := hB27.f fB26
            have z27 := hB27.below.size
            have fA27 := hB27.f fA26
            have b27_4 := hB27.b b26_4
            have b27_5 := hB27.b b26_5
            have b27_6 := hB27.b b26_6
            have q121' := (q118'.below hB27.below)
            have q122' := (q119'.below hB27.below)
            have q123' := (q120'.below hB27.below)
            refine wpOps_end ?_
            have k27_3 := kt hg27 3 k26_3
            have k27_4 := kt hg27 4 k26_4
            have k27_6 := kt hg27 6 k26_6
            have k27_7 := kt hg27 7 k26_7
            have k27_8 := kt hg27 8 k26_8
            have k27_10 := kt hg27 10 k26_10
            have k27_9 := kt hg27 9 k26_9
            have k27_12 := kt hg27 12 k26_12
            have k27_11 := kt hg27 11 (hB27.is 1)
            refine inBlock_normal ?_
            refine hK15 _ _ ?_
            refine region_dk 3 [(37, 0), (38, 1), (12, 2)] [[], [0], [0, 1]] (rel [is (.int .i64 ((n : Int) + 1)),
      is (.int .i64 (((n : Int) + 1) + 1)),
      is (.int .i64 (((n : Int) + 1) + 1))])
              ⟨is_k, is_k, is_k, trivial⟩
              ⟨fun f s W j l p q r a => opv rfl rfl (by simp [go_sem, a.e 12 ((q 2 12 rfl rfl).trans k27_12)]) rfl,
    fun f s W j l p q r a => opv rfl rfl (by simp [go_sem, a.e 37 (l 0 rfl), IntWalk.i64_in (((n : Int) + 1) + 1) (by omega)]) rfl,
    fun f s W j l p q r a => opv rfl rfl (by simp [go_sem, a.e 38 (l 1 rfl)]) rfl, trivial⟩ ?_
            intro f28 s28 W28 hB28 g28 hg28
            have fB28 := hB28.f fB27
            have z28 := hB28.below.size
            have fA28 := hB28.f fA27
            have b28_4 := hB28.b b27_4
            have b28_5 := hB28.b b27_5
            have b28_6 := hB28.b b27_6
            have q124' := (q121'.below hB28.below)
            have q125' := (q122'.below hB28.below)
            have q126' := (q123'.below hB28.below)
            refine wpOps_end ?_
            have k28_3 := kt hg28 3 k27_3
            have k28_4 := kt hg28 4 k27_4
            have k28_6 := kt hg28 6 k27_6
            have k28_7 := kt hg28 7 k27_7
            have k28_8 := kt hg28 8 k27_8
            have k28_10 := kt hg28 10 k27_10
            have k28_9 := kt hg28 9 k27_9
            have k28_11 := kt hg28 11 k27_11
            have k28_12 := kt hg28 12 (hB28.is 2)
            refine then_normal ?_
            have q127' := (q33'.below fA28 (Nat.le_refl _))
            have q128' := (q34'.below fA28 (Nat.le_refl _))
            have q129' := (q35'.below fA28 (Nat.le_refl _))
            have q130' := (Nat.lt_of_lt_of_le q36' (Below.size fA28))
            have q131' := (Nat.lt_of_lt_of_le q37' (Below.size fA28))
            have q132' := (Nat.lt_of_lt_of_le q38' (Below.size fA28))
            have bl133' := blk_below b9_0 fA28
            have bl134' := blk_below b9_1 fA28
            have bl135' := blk_below b9_2 fA28
            have bl136' := blk_below b9_3 fA28
            have hnx : St i (n + 1) = ((St i n).1, if vi.isOpen = true then 7 + ((1 - i : Nat) : Int) else 5 + ((1 - i : Nat) : Int)) := by rw [hSn i n h0]; exact next_none (by simpa using hc20) hi2 hfq
            exact ⟨_, by omega, g28, rfl, n + 1, ua, uc, va, vc, xa, xc, rfl, k28_3, k28_4, k28_6, k28_7, k28_8, k28_10, k28_9, k28_12.trans (by go_num), k28_11.trans (by rw [hnx]), fB28, (by omega), bl133', bl134', bl135', (by rw [hnx]; exact bl136'), (by rw [hnx]; exact q127'), (by rw [hnx]; exact q128'), (by rw [hnx]; exact q129'), q130', q131', q132', (by omega), (by omega), (by omega), (by omega), (by omega), (by omega), (by omega), (by omega), (by omega), (by omega)⟩
          ·
            refine wp_skip ?_
            refine hK21 _ _ ?_
            refine wp_seq_k fun K28 hK28 => ?_
            refine region_dk 11 [(57, 0), (58, 1), (59, 2), (60, 3), (61, 4), (62, 5), (56, 6), (63, 7), (64, 8), (65, 9), (14, 10), (15, 12), (16, 13)] [[], [], [], [], [3], [0, 1, 2, 3, 4], [0, 1, 2, 3, 4, 5], [0, 1, 2, 3, 4, 5, 6], [0, 1, 2, 3, 4, 5, 6], [0, 1, 2, 3, 4, 5, 6], [], [0, 1, 2, 3, 4, 5, 6, 7, 10], [0, 1, 2, 3, 4, 5, 6, 7, 8, 10, 11], [0, 1, 2, 3, 4, 5, 6, 7, 8, 9, 10, 11, 12]] (rel [is (.agg #[.int .i64 ((St i n).1.tab), .slice (some ⟨g39', 0, none⟩) ((St i n).1.panels.length) (c42'), .int .i64 ((St i n).1.height), .slice (some ⟨g40', 0, none⟩) ((St i n).1.top.length) (c43'), .slice (some ⟨g41', 0, none⟩) ((St i n).1.bottom.length) (c44'), .int .i64 ((St i n).1.slot), .bool ((St i n).1.isOpen)]),
      is (.agg #[.int .i64 vi.length.1, .int .i64 vi.length.2, .int .i64 vi.width.1, .int .i64 vi.width.2, .int .i64 vi.height.1, .int .i64 vi.height.2, .int .i64 vi.outer.1, .int .i64 vi.outer.2, .int .i64 vi.inner.1, .int .i64 vi.inner.2, .bool vi.isOpen]),
      is (.agg #[.int .i64 lo, .int .i64 hi]),
      is (.int .i64 ((i : Int))),
      is (.int .i64 (1 - (i : Int))),
      fun v s W => ∃ x0, v = .tuple #[x0, .int .i64 0, .bool true] ∧ NwBlk (s 5) ((setF (setP (St i n).1 i ((n : Int) + 1)) (1 - i) fq vi.isOpen)) x0 W,
      fun v s W => ∃ x0, v = .tuple #[x0, .int .i64 0, .bool true] ∧ NwBlk (s 5) ((setF (setP (St i n).1 i ((n : Int) + 1)) (1 - i) fq vi.isOpen)) x0 W,
      fun v s W => NwBlk (s 5) ((setF (setP (St i n).1 i ((n : Int) + 1)) (1 - i) fq vi.isOpen)) v W,
      is (.int .i64 0),
      is (.bool true),
      bx 10 #[.int .i64 0, .slice (none) (0) (0), .int .i64 0, .slice (none) (0) (0), .slice (none) (0) (0), .int .i64 0, .bool false] 24])
              ⟨is_k, is_k, is_k, is_k, is_k, ⟨fun v k W W' hb ⟨x0, e, h0⟩ => ⟨x0, e, h0.below hb⟩, fun v s s' W e ⟨x0, e1, h0⟩ => ⟨x0, e1, (e 5 (by simp)) ▸ h0⟩⟩, ⟨fun v k W W' hb ⟨x0, e, h0⟩ => ⟨x0, e, h0.below hb⟩, fun v s s' W e h => by have h' : ∃ x0, v = .tuple #[x0, .int .i64 0, .bool true] ∧ NwBlk (s 5) ((setF (setP (St i n).1 i ((n : Int) + 1)) (1 - i) fq vi.isOpen)) x0 W := h; show ∃ x0, v = .tuple #[x0, .int .i64 0, .bool true] ∧ NwBlk (s' 5) ((setF (setP (St i n).1 i ((n : Int) + 1)) (1 - i) fq vi.isOpen)) x0 W; rw [← e 5 (by simp)]; exact h'⟩, ⟨fun v k W W' hb h => h.below hb, fun v s s' W e h => by have h' : NwBlk (s 5) ((setF (setP (St i n).1 i ((n : Int) + 1)) (1 - i) fq vi.isOpen)) v W := h; show NwBlk (s' 5) ((setF (setP (St i n).1 i ((n : Int) + 1)) (1 - i) fq vi.isOpen)) v W; rw [← e 5 (by simp)]; exact h'⟩, is_k, is_k, bx_k, trivial⟩
              ⟨fun f s W j l p q r a => opv rfl rfl (by simp [go_sem, a.e 13 k17_13, cb b17_4 j 0, cb b17_4 j 1, cb b17_4 j 2, cb b17_4 j 3, cb b17_4 j 4, cb b17_4 j 5, cb b17_4 j 6]) rfl,
    fun f s W j l p q r a => by have aW := below_trans fA17 j; exact opv rfl rfl (by simp [go_sem, a.e 3 k17_3, cb b9_0 aW 0, cb b9_0 aW 1, cb b9_0 aW 2, cb b9_0 aW 3, cb b9_0 aW 4, cb b9_0 aW 5, cb b9_0 aW 6, cb b9_0 aW 7, cb b9_0 aW 8, cb b9_0 aW 9, cb b9_0 aW 10]) rfl,
    fun f s W j l p q r a => by have aW := below_trans fA17 j; exact opv rfl rfl (by simp [go_sem, a.e 4 k17_4, cb b9_1 aW 0, cb b9_1 aW 1]) rfl,
    fun f s W j l p q r a => opv rfl rfl (by simp [go_sem, a.e 10 k17_10]) rfl,
    fun f s W j l p q r a => opv rfl rfl (by simp [go_sem, a.e 60 (l 3 rfl), IntWalk.i64_in (1 - (i : Int)) (by omega)]) rfl,
    fun f s W j l p q r a => opDo_call (args := #[.agg #[.int .i64 ((St i n).1.tab), .slice (some ⟨g39', 0, none⟩) ((St i n).1.panels.length) (c42'), .int .i64 ((St i n).1.height), .slice (some ⟨g40', 0, none⟩) ((St i n).1.top.length) (c43'), .slice (some ⟨g41', 0, none⟩) ((St i n).1.bottom.length) (c44'), .int .i64 ((St i n).1.slot), .bool ((St i n).1.isOpen)], .agg #[.int .i64 vi.length.1, .int .i64 vi.length.2, .int .i64 vi.width.1, .int .i64 vi.width.2, .int .i64 vi.height.1, .int .i64 vi.height.2, .int .i64 vi.outer.1, .int .i64 vi.outer.2, .int .i64 vi.inner.1, .int .i64 vi.inner.2, .bool vi.isOpen], .agg #[.int .i64 lo, .int .i64 hi], .int .i64 (1 - (i : Int))]) rfl rfl (by simp [go_sem, a.e 57 (l 0 rfl), a.e 58 (l 1 rfl), a.e 59 (l 2 rfl), a.e 61 (l 4 rfl)]) (flap_refb (b := (setP (St i n).1 i ((n : Int) + 1))) vi (1 - i) (1 - (i : Int)) lo hi W ⟨_, _, _, _, _, _, _, _, _, rfl, (OwnI.iin (n := (St i n).1.panels.length) ((q80'.below j)) (List.length_set ..)), (OwnI.iin (n := (St i n).1.top.length) ((q78'.below j)) rfl), (OwnI.iin (n := (St i n).1.bottom.length) ((q79'.below j)) rfl)⟩ (setP_ok hsk.1 i ⟨by omega, by omega⟩) hw (by omega) (by omega) gl glh gh) (fun e W' h => by obtain ⟨u, e1, h1, h2⟩ := h.1 fq hfq; exact ⟨_, e1, h2, u, rfl, (show NwBlk (upd s 5 W.heap.size 5) ((setF (setP (St i n).1 i ((n : Int) + 1)) (1 - i) fq vi.isOpen)) u W' from by rw [upd_at]; exact h1)⟩),
    fun f s W j l p q r a => opv (v := (f 5)) rfl rfl (by simp [go_sem, (a.at' 62 rfl : r.tmps[62]?.getD undef = f 5)] <;> rfl) (l 5 rfl),
    fun f s W j l p q r a => by obtain ⟨x6_0, d6, p6_0⟩ := (l 6 rfl); exact opv (v := x6_0) rfl rfl (by simp [go_sem, a.e 56 d6]) p6_0,
    fun f s W j l p q r a => by obtain ⟨x6_0, d6, p6_0⟩ := (l 6 rfl); exact opv rfl rfl (by simp [go_sem, a.e 56 d6]) rfl,
    fun f s W j l p q r a => by obtain ⟨x6_0, d6, p6_0⟩ := (l 6 rfl); exact opv rfl rfl (by simp [go_sem, a.e 56 d6]) rfl,
    fun f s W j l p q r a => opb rfl rfl (by simp [go_sem]), trivial⟩ ?_
            intro f29 s29 W29 hB29 g29 hg29
            have fB29 := hB29.f fB17
            have z29 := hB29.below.size
            have fA29 := hB29.f fA17
            have b29_4 := hB29.b b17_4
            have b29_5 := hB29.b b17_5
            have q137' := (q78'.below hB29.below)
            have q138' := (q79'.below hB29.below)
            have q139' := (q80'.below hB29.below)
            have la29_7_5 := hB29.from' 5 (by decide)
            obtain ⟨g140', c143', g141', c144', g142', c145', r29_7, ⟨q146', q148', q147'⟩, ⟨q149', q151', q150'⟩, ⟨q152', q154', q153'⟩⟩ := hB29.is 7
            obtain ⟨r29_10, br29_10⟩ := hB29.is 10
            have lr29_10 := hB29.lr 10 br29_10
            have oc29_7_10_0 := step_ne q146' (by first | (rw [(setFP_len hsk.1).1]; decide) | (rw [(setFP_len hsk.1).2.1]; decide) | (rw [(setFP_len hsk.1).2.2]; decide)) br29_10 rfl
            have oc29_7_10_1 := step_ne q149' (by first | (rw [(setFP_len hsk.1).1]; decide) | (rw [(setFP_len hsk.1).2.1]; decide) | (rw [(setFP_len hsk.1).2.2]; decide)) br29_10 rfl
            have oc29_7_10_2 := step_ne q152' (by first | (rw [(setFP_len hsk.1).1]; decide) | (rw [(setFP_len hsk.1).2.1]; decide) | (rw [(setFP_len hsk.1).2.2]; decide)) br29_10 rfl
            have k29_3 := kt hg29 3 k17_3
            have k29_4 := kt hg29 4 k17_4
            have k29_6 := kt hg29 6 k17_6
            have k29_7 := kt hg29 7 k17_7
            have k29_8 := kt hg29 8 k17_8
            have k29_10 := kt hg29 10 k17_10
            have k29_9 := kt hg29 9 k17_9
            have k29_12 := kt hg29 12 k17_12
            have k29_11 := kt hg29 11 k17_11
            have k29_63 := kt hg29 63 r29_7
            have k29_64 := kt hg29 64 (hB29.is 8)
            have k29_65 := kt hg29 65 (hB29.is 9)
            have k29_14 := kt hg29 14 r29_10
            obtain ⟨W30, hW30⟩ : ∃ W', W' = W29.setRow (s29 10) #[.int .i64 ((setF (setP (St i n).1 i ((n : Int) + 1)) (1 - i) fq vi.isOpen).tab), .slice (some ⟨g140', 0, none⟩) ((setF (setP (St i n).1 i ((n : Int) + 1)) (1 - i) fq vi.isOpen).panels.length) (c143'), .int .i64 ((setF (setP (St i n).1 i ((n : Int) + 1)) (1 - i) fq vi.isOpen).height), .slice (some ⟨g141', 0, none⟩) ((setF (setP (St i n).1 i ((n : Int) + 1)) (1 - i) fq vi.isOpen).top.length) (c144'), .slice (some ⟨g142', 0, none⟩) ((setF (setP (St i n).1 i ((n : Int) + 1)) (1 - i) fq vi.isOpen).bottom.length) (c145'), .int .i64 ((setF (setP (St i n).1 i ((n : Int) + 1)) (1 - i) fq vi.isOpen).slot), .bool ((setF (setP (St i n).1 i ((n : Int) + 1)) (1 - i) fq vi.isOpen).isOpen)] := ⟨_, rfl⟩
            refine tail_skip (o := _) rfl ⟨rfl, rfl⟩ (run_seg hW30 (fr_ev k29_14) (fr_ev k29_63) br29_10 rfl rfl rfl rfl) ?_
            obtain ⟨fB30, nb30, ot30, z30⟩ := seg_facts hW30 fB29 br29_10 (by omega)
            have fA30 := (seg_facts hW30 fA29 br29_10 (by omega)).1
            clear hW30
            have b30_4 := ot30 _ _ (by omega) b29_4
            have b30_5 := ot30 _ _ (by omega) b29_5
            have q155' := q137'.other ot30 (by omega) z30
            have q156' := q138'.other ot30 (by omega) z30
            have q157' := q139'.other ot30 (by omega) z30
            have q158' := (q146'.other ot30 q147' (by omega) z30)
            have q159' := Nat.lt_of_lt_of_le q147' z30
            have q160' := (q149'.other ot30 q150' (by omega) z30)
            have q161' := Nat.lt_of_lt_of_le q150' z30
            have q162' := (q152'.other ot30 q153' (by omega) z30)
            have q163' := Nat.lt_of_lt_of_le q153' z30
            refine tail_value (o := _) rfl rfl rfl (v := .int .i64 0) (by simp [go_sem, frv 112 k29_64]) ?_
            generalize hg31 : upd g29 15 (.int .i64 0) = g31
            have k31_3 := ku hg31 3 k29_3
            have k31_4 := ku hg31 4 k29_4
            have k31_6 := ku hg31 6 k29_6
            have k31_7 := ku hg31 7 k29_7
            have k31_8 := ku hg31 8 k29_8
            have k31_10 := ku hg31 10 k29_10
            have k31_9 := ku hg31 9 k29_9
            have k31_12 := ku hg31 12 k29_12
            have k31_11 := ku hg31 11 k29_11
            have k31_65 := ku hg31 65 k29_65
            have k31_14 := ku hg31 14 k29_14
            have k31_15 := kt hg31 15 (upd_same _ _ _)
            refine tail_value (o := _) rfl rfl rfl (v := .bool true) (by simp [go_sem, frv 112 k31_65]) ?_
            generalize hg32 : upd g31 16 (.bool true) = g32
            have k32_3 := ku hg32 3 k31_3
            have k32_4 := ku hg32 4 k31_4
            have k32_6 := ku hg32 6 k31_6
            have k32_7 := ku hg32 7 k31_7
            have k32_8 := ku hg32 8 k31_8
            have k32_10 := ku hg32 10 k31_10
            have k32_9 := ku hg32 9 k31_9
            have k32_12 := ku hg32 12 k31_12
            have k32_11 := ku hg32 11 k31_11
            have k32_14 := ku hg32 14 k31_14
            have k32_15 := ku hg32 15 k31_15
            have k32_16 := kt hg32 16 (upd_same _ _ _)
            refine wpOps_end ?_
            refine hK28 _ _ ?_
            refine wp_seq_k fun K29 hK29 => ?_
            refine region_dk 1 [(66, 0)] [[]] (rel [is (.bool true)])
              ⟨is_k, trivial⟩
              ⟨fun f s W j l p q r a => opv rfl rfl (by simp [go_sem, a.e 16 k32_16]) rfl, trivial⟩ ?_
            intro f33 s33 W33 hB33 g33 hg33
            have fB33 := hB33.f fB30
            have z33 := hB33.below.size
            have fA33 := hB33.f fA30
            have b33_4 := hB33.b b30_4
            have b33_5 := hB33.b b30_5
            have b33_6 := hB33.b nb30
            have q164' := (q155'.below hB33.below)
            have q165' := (q156'.below hB33.below)
            have q166' := (q157'.below hB33.below)
            have q167' := (q158'.bw hB33)
            have q168' := (hB33.lt q159')
            have q169' := (q160'.bw hB33)
            have q170' := (hB33.lt q161')
            have q171' := (q162'.bw hB33)
            have q172' := (hB33.lt q163')
            refine hK29 _ _ ?_
            have k33_3 := kt hg33 3 k32_3
            have k33_4 := kt hg33 4 k32_4
            have k33_6 := kt hg33 6 k32_6
            have k33_7 := kt hg33 7 k32_7
            have k33_8 := kt hg33 8 k32_8
            have k33_10 := kt hg33 10 k32_10
            have k33_9 := kt hg33 9 k32_9
            have k33_12 := kt hg33 12 k32_12
            have k33_11 := kt hg33 11 k32_11
            have k33_14 := kt hg33 14 k32_14
            have k33_15 := kt hg33 15 k32_15
            have k33_66 := kt hg33 66 (hB33.is 0)
            refine wp_cond_true ((fr_eval rfl).trans k33_66) ?_
            refine region_dk 1 [(67, 0), (11, 2)] [[], [0], [0, 1]] (rel [is (.agg #[.int .i64 ((setF (setP (St i n).1 i ((n : Int) + 1)) (1 - i) fq vi.isOpen).tab), .slice (some ⟨g140', 0, none⟩) ((setF (setP (St i n).1 i ((n : Int) + 1)) (1 - i) fq vi.isOpen).panels.length) (c143'), .int .i64 ((setF (setP (St i n).1 i ((n : Int) + 1)) (1 - i) fq vi.isOpen).height), .slice (some ⟨g141', 0, none⟩) ((setF (setP (St i n).1 i ((n : Int) + 1)) (1 - i) fq vi.isOpen).top.length) (c144'), .slice (some ⟨g142', 0, none⟩) ((setF (setP (St i n).1 i ((n : Int) + 1)) (1 - i) fq vi.isOpen).bottom.length) (c145'), .int .i64 ((setF (setP (St i n).1 i ((n : Int) + 1)) (1 - i) fq vi.isOpen).slot), .bool ((setF (setP (St i n).1 i ((n : Int) + 1)) (1 - i) fq vi.isOpen).isOpen)])])
              ⟨is_k, trivial⟩
              ⟨fun f s W j l p q r a => opv rfl rfl (by simp [go_sem, a.e 14 k33_14, cb b33_6 j 0, cb b33_6 j 1, cb b33_6 j 2, cb b33_6 j 3, cb b33_6 j 4, cb b33_6 j 5, cb b33_6 j 6]) rfl, trivial⟩ ?_
            intro f34 s34 W34 hB34 g34 hg34
            have fB34 := hB34.f fB33
            have z34 := hB34.below.size
            have fA34 := hB34.f fA33
            have b34_4 := hB34.b b33_4
            have b34_5 := hB34.b b33_5
            have b34_6 := hB34.b b33_6
            have q173' := (q164'.below hB34.below)
            have q174' := (q165'.below hB34.below)
            have q175' := (q166'.below hB34.below)
            have q176' := (q167'.bw hB34)
            have q177' := (hB34.lt q168')
            have q178' := (q169'.bw hB34)
            have q179' := (hB34.lt q170')
            have q180' := (q171'.bw hB34)
            have q181' := (hB34.lt q172')
            have k34_3 := kt hg34 3 k33_3
            have k34_4 := kt hg34 4 k33_4
            have k34_6 := kt hg34 6 k33_6
            have k34_7 := kt hg34 7 k33_7
            have k34_8 := kt hg34 8 k33_8
            have k34_10 := kt hg34 10 k33_10
            have k34_9 := kt hg34 9 k33_9
            have k34_12 := kt hg34 12 k33_12
            have k34_67 := kt hg34 67 (hB34.is 0)
            have q182' := (q33'.below fA34 (Nat.le_refl _))
            have q183' := (q34'.below fA34 (Nat.le_refl _))
            have q184' := (q35'.below fA34 (Nat.le_refl _))
            have q185' := (Nat.lt_of_lt_of_le q36' (Below.size fA34))
            have q186' := (Nat.lt_of_lt_of_le q37' (Below.size fA34))
            have q187' := (Nat.lt_of_lt_of_le q38' (Below.size fA34))
            have bl188' := blk_below b9_0 fA34
            have bl189' := blk_below b9_1 fA34
            have bl190' := blk_below b9_2 fA34
            have bl191' := blk_below b9_3 fA34
            obtain ⟨W35, hW35⟩ : ∃ W', W' = W34.setRow (s2 7) #[.int .i64 ((setF (setP (St i n).1 i ((n : Int) + 1)) (1 - i) fq vi.isOpen).tab), .slice (some ⟨g140', 0, none⟩) ((setF (setP (St i n).1 i ((n : Int) + 1)) (1 - i) fq vi.isOpen).panels.length) (c143'), .int .i64 ((setF (setP (St i n).1 i ((n : Int) + 1)) (1 - i) fq vi.isOpen).height), .slice (some ⟨g141', 0, none⟩) ((setF (setP (St i n).1 i ((n : Int) + 1)) (1 - i) fq vi.isOpen).top.length) (c144'), .slice (some ⟨g142', 0, none⟩) ((setF (setP (St i n).1 i ((n : Int) + 1)) (1 - i) fq vi.isOpen).bottom.length) (c145'), .int .i64 ((setF (setP (St i n).1 i ((n : Int) + 1)) (1 - i) fq vi.isOpen).slot), .bool ((setF (setP (St i n).1 i ((n : Int) + 1)) (1 - i) fq vi.isOpen).isOpen)] := ⟨_, rfl⟩
            refine tail_skip (o := _) rfl ⟨rfl, rfl⟩ (run_seg hW35 (fr_ev k34_8) (fr_ev k34_67) bl191' rfl rfl rfl rfl) ?_
            obtain ⟨fB35, nb35, ot35, z35⟩ := seg_facts hW35 fB34 bl191' (by omega)
            clear hW35
            have b35_0 := ot35 _ _ (by omega) bl188'
            have b35_1 := ot35 _ _ (by omega) bl189'
            have b35_2 := ot35 _ _ (by omega) bl190'
            have b35_4 := ot35 _ _ (by omega) b34_4
            have b35_5 := ot35 _ _ (by omega) b34_5
            have b35_6 := ot35 _ _ (by omega) b34_6
            have q192' := (q182'.other ot35 q185' (by omega) z35)
            have q193' := (q183'.other ot35 q186' (by omega) z35)
            have q194' := (q184'.other ot35 q187' (by omega) z35)
            have q195' := Nat.lt_of_lt_of_le q185' z35
            have q196' := Nat.lt_of_lt_of_le q186' z35
            have q197' := Nat.lt_of_lt_of_le q187' z35
            have q198' := q173'.other ot35 (by omega) z35
            have q199' := q174'.other ot35 (by omega) z35
            have q200' := q175'.other ot35 (by omega) z35
            have q201' := (q176'.other ot35 q177' (by omega) z35)
            have q202' := Nat.lt_of_lt_of_le q177' z35
            have q203' := (q178'.other ot35 q179' (by omega) z35)
            have q204' := Nat.lt_of_lt_of_le q179' z35
            have q205' := (q180'.other ot35 q181' (by omega) z35)
            have q206' := Nat.lt_of_lt_of_le q181' z35
            refine tail_value (o := _) rfl rfl rfl (v := .int .i64 (-1)) (by simp [go_sem]) ?_
            generalize hg36 : upd g34 11 (.int .i64 (-1)) = g36
            have k36_3 := ku hg36 3 k34_3
            have k36_4 := ku hg36 4 k34_4
            have k36_6 := ku hg36 6 k34_6
            have k36_7 := ku hg36 7 k34_7
            have k36_8 := ku hg36 8 k34_8
            have k36_10 := ku hg36 10 k34_10
            have k36_9 := ku hg36 9 k34_9
            have k36_12 := ku hg36 12 k34_12
            have k36_11 := kt hg36 11 (upd_same _ _ _)
            refine wpOps_end ?_
            refine inBlock_normal ?_
            refine hK15 _ _ ?_
            refine region_dk 3 [(37, 0), (38, 1), (12, 2)] [[], [0], [0, 1]] (rel [is (.int .i64 ((n : Int) + 1)),
      is (.int .i64 (((n : Int) + 1) + 1)),
      is (.int .i64 (((n : Int) + 1) + 1))])
              ⟨is_k, is_k, is_k, trivial⟩
              ⟨fun f s W j l p q r a => opv rfl rfl (by simp [go_sem, a.e 12 ((q 2 12 rfl rfl).trans k36_12)]) rfl,
    fun f s W j l p q r a => opv rfl rfl (by simp [go_sem, a.e 37 (l 0 rfl), IntWalk.i64_in (((n : Int) + 1) + 1) (by omega)]) rfl,
    fun f s W j l p q r a => opv rfl rfl (by simp [go_sem, a.e 38 (l 1 rfl)]) rfl, trivial⟩ ?_
            intro f37 s37 W37 hB37 g37 hg37
            have fB37 := hB37.f fB35
            have z37 := hB37.below.size
            have b37_0 := hB37.b b35_0
            have b37_1 := hB37.b b35_1
            have b37_2 := hB37.b b35_2
            have b37_3 := hB37.b nb35
            have b37_4 := hB37.b b35_4
            have b37_5 := hB37.b b35_5
            have b37_6 := hB37.b b35_6
            have q207' := (q192'.bw hB37)
            have q208' := (q193'.bw hB37)
            have q209' := (q194'.bw hB37)
            have q210' := (hB37.lt q195')
            have q211' := (hB37.lt q196')
            have q212' := (hB37.lt q197')
            have q213' := (q198'.below hB37.below)
            have q214' := (q199'.below hB37.below)
            have q215' := (q200'.below hB37.below)
            have q216' := (q201'.bw hB37)
            have q217' := (hB37.lt q202')
            have q218' := (q203'.bw hB37)
            have q219' := (hB37.lt q204')
            have q220' := (q205'.bw hB37)
            have q221' := (hB37.lt q206')
            refine wpOps_end ?_
            have k37_3 := kt hg37 3 k36_3
            have k37_4 := kt hg37 4 k36_4
            have k37_6 := kt hg37 6 k36_6
            have k37_7 := kt hg37 7 k36_7
            have k37_8 := kt hg37 8 k36_8
            have k37_10 := kt hg37 10 k36_10
            have k37_9 := kt hg37 9 k36_9
            have k37_11 := kt hg37 11 k36_11
            have k37_12 := kt hg37 12 (hB37.is 2)
            refine then_normal ?_
            have hnx : St i (n + 1) = (setF (setP (St i n).1 i ((n : Int) + 1)) (1 - i) fq vi.isOpen, -1) := by rw [hSn i n h0]; exact next_some (by simpa using hc20) hi2 hfq
            exact ⟨_, by omega, g37, rfl, n + 1, g140', c143', g141', c144', g142', c145', rfl, k37_3, k37_4, k37_6, k37_7, k37_8, k37_10, k37_9, k37_12.trans (by go_num), k37_11.trans (by rw [hnx]), fB37, (by omega), b37_0, b37_1, b37_2, (by rw [hnx]; exact b37_3), (by rw [hnx]; exact q216'), (by rw [hnx]; exact q218'), (by rw [hnx]; exact q220'), q217', q219', q221', (by omega), (by omega), (by omega), (by omega), (by omega), (by omega), (by omega), (by omega), (by omega), (by omega)⟩
    ·
      have hc14' := hc14; try simp only [ba] at hc14'
      have hfin : St i n = St i 3000 := by
        rcases Nat.lt_or_ge n 3000 with h' | h'
        · exact hSe i n (by rcases Bool.and_eq_false_iff.1 hc14 with h2 | h2 <;> have h3 := of_decide_eq_false h2 <;> omega) (by omega)
        · rw [show n = 3000 by omega]
      have hsk := hSk i n hi4 (by omega)
      refine wp_exit ?_
      refine then_exit ?_
      refine then_exit ?_
      refine inBlock_at ?_
      refine hK10 _ _ ?_
      refine wp_seq_k fun K31 hK31 => ?_
      refine region_dk 2 [(69, 0), (70, 1)] [[], [0]] (rel [is (.int .i64 ((St i n).2)),
      is (.bool (decide (0 ≤ ((St i n).2))))])
        ⟨is_k, is_k, trivial⟩
        ⟨fun f s W j l p q r a => opv rfl rfl (by simp [go_sem, a.e 11 k9_11]) rfl,
    fun f s W j l p q r a => opv rfl rfl (by simp [go_sem, a.e 69 (l 0 rfl)]) rfl, trivial⟩ ?_
      intro f38 s38 W38 hB38 g38 hg38
      have fB38 := hB38.f fB9
      have z38 := hB38.below.size
      have b38_0 := hB38.b b9_0
      have b38_1 := hB38.b b9_1
      have b38_2 := hB38.b b9_2
      have b38_3 := hB38.b b9_3
      have q222' := (q33'.bw hB38)
      have q223' := (q34'.bw hB38)
      have q224' := (q35'.bw hB38)
      have q225' := (hB38.lt q36')
      have q226' := (hB38.lt q37')
      have q227' := (hB38.lt q38')
      refine hK31 _ _ ?_
      have k38_3 := kt hg38 3 k9_3
      have k38_4 := kt hg38 4 k9_4
      have k38_6 := kt hg38 6 k9_6
      have k38_7 := kt hg38 7 k9_7
      have k38_8 := kt hg38 8 k9_8
      have k38_10 := kt hg38 10 k9_10
      have k38_9 := kt hg38 9 k9_9
      have k38_11 := kt hg38 11 k9_11
      have k38_70 := kt hg38 70 (hB38.is 1)
      refine wp_cond_split (t := decide (0 ≤ ((St i n).2))) ((fr_eval rfl).trans k38_70) (fun hc32 => ?_) (fun hc32 => ?_)
      ·
        have hc32' := hc32; try simp only [ba] at hc32'
        refine region_dk 4 [(71, 0), (72, 1), (73, 2), (9, 3)] [[], [], [0, 1], [0, 1, 2]] (rel [is (.int .i64 ((Ou i).2)),
      is (.int .i64 ((St i n).2)),
      is (.int .i64 (min ((Ou i).2) ((St i n).2))),
      is (.int .i64 (min ((Ou i).2) ((St i n).2)))])
          ⟨is_k, is_k, is_k, is_k, trivial⟩
          ⟨fun f s W j l p q r a => opv rfl rfl (by simp [go_sem, a.e 9 ((q 3 9 rfl rfl).trans k38_9)]) rfl,
    fun f s W j l p q r a => opv rfl rfl (by simp [go_sem, a.e 11 k38_11]) rfl,
    fun f s W j l p q r a => opv rfl rfl (by simp [go_sem, a.e 71 (l 0 rfl), a.e 72 (l 1 rfl)]) rfl,
    fun f s W j l p q r a => opv rfl rfl (by simp [go_sem, a.e 73 (l 2 rfl)]) rfl, trivial⟩ ?_
        intro f39 s39 W39 hB39 g39 hg39
        have fB39 := hB39.f fB38
        have z39 := hB39.below.size
        have b39_0 := hB39.b b38_0
        have b39_1 := hB39.b b38_1
        have b39_2 := hB39.b b38_2
        have b39_3 := hB39.b b38_3
        have q228' := (q222'.bw hB39)
        have q229' := (q223'.bw hB39)
        have q230' := (q224'.bw hB39)
        have q231' := (hB39.lt q225')
        have q232' := (hB39.lt q226')
        have q233' := (hB39.lt q227')
        refine wpOps_end ?_
        have k39_3 := kt hg39 3 k38_3
        have k39_4 := kt hg39 4 k38_4
        have k39_6 := kt hg39 6 k38_6
        have k39_7 := kt hg39 7 k38_7
        have k39_8 := kt hg39 8 k38_8
        have k39_10 := kt hg39 10 k38_10
        have k39_9 := kt hg39 9 (hB39.is 3)
        refine inBlock_normal ?_
        refine hK8 _ _ ?_
        refine region_dk 3 [(28, 0), (29, 1), (10, 2)] [[], [0], [0, 1]] (rel [is (.int .i64 ((i : Int))),
      is (.int .i64 ((i : Int) + 1)),
      is (.int .i64 ((i : Int) + 1))])
          ⟨is_k, is_k, is_k, trivial⟩
          ⟨fun f s W j l p q r a => opv rfl rfl (by simp [go_sem, a.e 10 ((q 2 10 rfl rfl).trans k39_10)]) rfl,
    fun f s W j l p q r a => opv rfl rfl (by simp [go_sem, a.e 28 (l 0 rfl), IntWalk.i64_in ((i : Int) + 1) (by omega)]) rfl,
    fun f s W j l p q r a => opv rfl rfl (by simp [go_sem, a.e 29 (l 1 rfl)]) rfl, trivial⟩ ?_
        intro f40 s40 W40 hB40 g40 hg40
        have fB40 := hB40.f fB39
        have z40 := hB40.below.size
        have b40_0 := hB40.b b39_0
        have b40_1 := hB40.b b39_1
        have b40_2 := hB40.b b39_2
        have b40_3 := hB40.b b39_3
        have q234' := (q228'.bw hB40)
        have q235' := (q229'.bw hB40)
        have q236' := (q230'.bw hB40)
        have q237' := (hB40.lt q231')
        have q238' := (hB40.lt q232')
        have q239' := (hB40.lt q233')
        refine wpOps_end ?_
        have k40_3 := kt hg40 3 k39_3
        have k40_4 := kt hg40 4 k39_4
        have k40_6 := kt hg40 6 k39_6
        have k40_7 := kt hg40 7 k39_7
        have k40_8 := kt hg40 8 k39_8
        have k40_9 := kt hg40 9 k39_9
        have k40_10 := kt hg40 10 (hB40.is 2)
        refine then_normal ?_
        have hou : (Ou (i + 1)).1 = (St i n).1 := by rw [hOs i hi4, ← hfin]
        exact ⟨_, by omega, g40, rfl, i + 1, ua, uc, va, vc, xa, xc, rfl, k40_3, k40_4, k40_6, k40_7, k40_8, k40_10.trans (by go_num), k40_9.trans (by rw [hOs i hi4, ← hfin, if_pos (by have := of_decide_eq_true hc32; omega)]), fB40, (by omega), b40_0, b40_1, b40_2, (by rw [hou]; exact b40_3), (by rw [hou]; exact q234'), (by rw [hou]; exact q235'), (by rw [hou]; exact q236'), q237', q238', q239', (by omega), (by omega), (by omega), (by omega), (by omega), (by omega), (by omega), (by omega), (by omega), (by omega)⟩
      ·
        have hc32' := hc32; try simp only [ba] at hc32'
        refine wp_skip ?_
        refine inBlock_normal ?_
        refine hK8 _ _ ?_
        refine region_dk 3 [(28, 0), (29, 1), (10, 2)] [[], [0], [0, 1]] (rel [is (.int .i64 ((i : Int))),
      is (.int .i64 ((i : Int) + 1)),
      is (.int .i64 ((i : Int) + 1))])
          ⟨is_k, is_k, is_k, trivial⟩
          ⟨fun f s W j l p q r a => opv rfl rfl (by simp [go_sem, a.e 10 ((q 2 10 rfl rfl).trans k38_10)]) rfl,
    fun f s W j l p q r a => opv rfl rfl (by simp [go_sem, a.e 28 (l 0 rfl), IntWalk.i64_in ((i : Int) + 1) (by omega)]) rfl,
    fun f s W j l p q r a => opv rfl rfl (by simp [go_sem, a.e 29 (l 1 rfl)]) rfl, trivial⟩ ?_
        intro f41 s41 W41 hB41 g41 hg41
        have fB41 := hB41.f fB38
        have z41 := hB41.below.size
        have b41_0 := hB41.b b38_0
        have b41_1 := hB41.b b38_1
        have b41_2 := hB41.b b38_2
        have b41_3 := hB41.b b38_3
        have q240' := (q222'.bw hB41)
        have q241' := (q223'.bw hB41)
        have q242' := (q224'.bw hB41)
        have q243' := (hB41.lt q225')
        have q244' := (hB41.lt q226')
        have q245' := (hB41.lt q227')
        refine wpOps_end ?_
        have k41_3 := kt hg41 3 k38_3
        have k41_4 := kt hg41 4 k38_4
        have k41_6 := kt hg41 6 k38_6
        have k41_7 := kt hg41 7 k38_7
        have k41_8 := kt hg41 8 k38_8
        have k41_9 := kt hg41 9 k38_9
        have k41_10 := kt hg41 10 (hB41.is 2)
        refine then_normal ?_
        have hou : (Ou (i + 1)).1 = (St i n).1 := by rw [hOs i hi4, ← hfin]
        exact ⟨_, by omega, g41, rfl, i + 1, ua, uc, va, vc, xa, xc, rfl, k41_3, k41_4, k41_6, k41_7, k41_8, k41_10.trans (by go_num), k41_9.trans (by rw [hOs i hi4, ← hfin, if_neg (by have := of_decide_eq_false hc32; omega)]), fB41, (by omega), b41_0, b41_1, b41_2, (by rw [hou]; exact b41_3), (by rw [hou]; exact q240'), (by rw [hou]; exact q241'), (by rw [hou]; exact q242'), q243', q244', q245', (by omega), (by omega), (by omega), (by omega), (by omega), (by omega), (by omega), (by omega), (by omega), (by omega)⟩
  ·
    have hc7' := hc7; try simp only [ba] at hc7'
    obtain rfl : i = 4 := by omega
    have hok4 := hOk 4 (by omega)
    ·
      refine wp_exit ?_
      refine then_exit ?_
      refine then_exit ?_
      refine inBlock_at ?_
      refine hK3 _ _ ?_
      refine wp_seq_k fun K33 hK33 => ?_
      refine region_dk 1 [(17, 0)] [[]] (rel [is (.int .i64 4)])
        ⟨is_k, trivial⟩
        ⟨fun f s W j l p q r a => opv rfl rfl (by simp [go_sem]) rfl, trivial⟩ ?_
      intro f42 s42 W42 hB42 g42 hg42
      have fB42 := hB42.f fB6
      have z42 := hB42.below.size
      have b42_0 := hB42.b b6_0
      have b42_1 := hB42.b b6_1
      have b42_2 := hB42.b b6_2
      have b42_3 := hB42.b b6_3
      have q246' := (q8'.bw hB42)
      have q247' := (q9'.bw hB42)
      have q248' := (q10'.bw hB42)
      have q249' := (hB42.lt q11')
      have q250' := (hB42.lt q12')
      have q251' := (hB42.lt q13')
      refine hK33 _ _ ?_
      have k42_3 := kt hg42 3 k6_3
      have k42_4 := kt hg42 4 k6_4
      have k42_6 := kt hg42 6 k6_6
      have k42_7 := kt hg42 7 k6_7
      have k42_8 := kt hg42 8 k6_8
      have k42_9 := kt hg42 9 k6_9
      have k42_17 := kt hg42 17 (hB42.is 0)
      refine wp_seq_k fun K34 hK34 => ?_
      refine wp_seq_k fun K35 hK35 => ?_
      refine region_dk 1 [(18, 0)] [[]] (rel [is (.int .i64 1)])
        ⟨is_k, trivial⟩
        ⟨fun f s W j l p q r a => opv rfl rfl (by simp [go_sem]) rfl, trivial⟩ ?_
      intro f43 s43 W43 hB43 g43 hg43
      have fB43 := hB43.f fB42
      have z43 := hB43.below.size
      have b43_0 := hB43.b b42_0
      have b43_1 := hB43.b b42_1
      have b43_2 := hB43.b b42_2
      have b43_3 := hB43.b b42_3
      have q252' := (q246'.bw hB43)
      have q253' := (q247'.bw hB43)
      have q254' := (q248'.bw hB43)
      have q255' := (hB43.lt q249')
      have q256' := (hB43.lt q250')
      have q257' := (hB43.lt q251')
      refine hK35 _ _ ?_
      have k43_3 := kt hg43 3 k42_3
      have k43_4 := kt hg43 4 k42_4
      have k43_6 := kt hg43 6 k42_6
      have k43_7 := kt hg43 7 k42_7
      have k43_8 := kt hg43 8 k42_8
      have k43_9 := kt hg43 9 k42_9
      have k43_17 := kt hg43 17 k42_17
      have k43_18 := kt hg43 18 (hB43.is 0)
      refine wp_block ?_
      refine wp_loop_n (fun m_ a_ W_ => ∃ g_ : Nat → Value, a_ = fr 112 g_ ∧ (∃ m : Nat, m_ = 3000 - m ∧ g_ 3 = .pointer (some ⟨(s1 0), 0, none⟩) ∧ g_ 4 = .pointer (some ⟨(s1 1), 0, none⟩) ∧ g_ 6 = .pointer (some ⟨(s1 2), 0, none⟩) ∧ g_ 7 = .int .i64 0 ∧ g_ 8 = .pointer (some ⟨(s2 7), 0, none⟩) ∧ g_ 9 = .int .i64 ((Ou 4).2) ∧ g_ 18 = .int .i64 ((m : Int) + 1) ∧ g_ 17 = .int .i64 ((Hs m).2) ∧ Below w.heap.size w W_ ∧ W43.heap.size ≤ W_.heap.size ∧ W_.heap[(s1 0)]? = some (.cells #[.int .i64 vi.length.1, .int .i64 vi.length.2, .int .i64 vi.width.1, .int .i64 vi.width.2, .int .i64 vi.height.1, .int .i64 vi.height.2, .int .i64 vi.outer.1, .int .i64 vi.outer.2, .int .i64 vi.inner.1, .int .i64 vi.inner.2, .bool vi.isOpen] 43 (0, 0)) ∧ W_.heap[(s1 1)]? = some (.cells #[.int .i64 lo, .int .i64 hi] 26 (0, 0)) ∧ W_.heap[(s1 2)]? = some (.cells #[.int .i64 0, .slice (none) (0) (0), .int .i64 0, .slice (none) (0) (0), .slice (none) (0) (0), .int .i64 0, .bool false] 24 (0, 0)) ∧ W_.heap[(s2 7)]? = some (.cells #[.int .i64 ((Ou 4).1.tab), .slice (some ⟨pa, 0, none⟩) ((Ou 4).1.panels.length) (pc), .int .i64 ((Hs m).1), .slice (some ⟨ta, 0, none⟩) ((Ou 4).1.top.length) (tc), .slice (some ⟨da, 0, none⟩) ((Ou 4).1.bottom.length) (dc), .int .i64 ((Ou 4).1.slot), .bool ((Ou 4).1.isOpen)] 24 (0, 0)) ∧ Ii W_ (some ⟨pa, 0, none⟩) (Ou 4).1.panels.length pc (Ou 4).1.panels ∧ Ii W_ (some ⟨ta, 0, none⟩) (Ou 4).1.top.length tc (Ou 4).1.top ∧ Ii W_ (some ⟨da, 0, none⟩) (Ou 4).1.bottom.length dc (Ou 4).1.bottom ∧ pa < W_.heap.size ∧ ta < W_.heap.size ∧ da < W_.heap.size ∧ (m ≤ 3000))) ⟨_, g43, rfl, 0, rfl, k43_3, k43_4, k43_6, k43_7, k43_8, k43_9, k43_18.trans (by rfl), k43_17.trans (by rw [hH0]), fB43, Nat.le_refl _, b43_0, b43_1, b43_2, (by rw [hH0]; rw [← hOh]; exact b43_3), q252', q253', q254', q255', q256', q257', (by omega)⟩ ?_
      rintro _ _ W_258 ⟨g_258, rfl, m, rfl, k_258_3, k_258_4, k_258_6, k_258_7, k_258_8, k_258_9, k_258_18, k_258_17, fB_258, z_258, b_258_0, b_258_1, b_258_2, m_258_0, q259', q260', q261', q262', q263', q264', np0⟩
      refine wp_seq_k fun K36 hK36 => ?_
      refine wp_seq_k fun K37 hK37 => ?_
      refine region_dk 6 [(74, 0), (75, 1), (76, 2), (77, 3), (78, 4), (79, 5)] [[], [0], [0, 1], [0, 1, 2], [0, 1, 2, 3], [0, 1, 2, 3, 4]] (rel [is (.int .i64 ((m : Int) + 1)),
      is (.bool (decide (((m : Int) + 1) ≤ 3000))),
      is (.bool (decide (((m : Int) + 1) ≤ 3000))),
      gd (decide (((m : Int) + 1) ≤ 3000)) true (is (.int .i64 ((Hs m).2))),
      gd (decide (((m : Int) + 1) ≤ 3000)) true (is (.bool (decide (0 ≤ ((Hs m).2))))),
      is (.bool ((decide (((m : Int) + 1) ≤ 3000)) && (decide (0 ≤ ((Hs m).2)))))])
        ⟨is_k, is_k, is_k, gd_k (is_k), gd_k (is_k), is_k, trivial⟩
        ⟨fun f s W j l p q r a => opv rfl rfl (by simp [go_sem, a.e 18 k_258_18]) rfl,
    fun f s W j l p q r a => opv rfl rfl (by simp [go_sem, a.e 74 (l 0 rfl)]) rfl,
    fun f s W j l p q r a => opv rfl rfl (by simp [go_sem, a.e 75 (l 1 rfl)]) rfl,
    fun f s W j l p q r a => gdo rfl rfl (a.says (d := 76) rfl rfl (l 2 rfl)) fun hgd0 => gv (by simp [go_sem, a.e 17 k_258_17]) rfl,
    fun f s W j l p q r a => gdo rfl rfl (a.says (d := 76) rfl rfl (l 2 rfl)) fun hgd0 => gv (by simp [go_sem, a.e 77 ((l 3 rfl).1 hgd0)]) rfl,
    fun f s W j l p q r a => opk (c := decide (((m : Int) + 1) ≤ 3000)) rfl rfl (fun hpk => by first | (simp [go_sem, hpk, a.e 76 (l 2 rfl)]; done) | (have hpk' := hpk; simp at hpk'; simp [go_sem, hpk', hpk, a.e 76 (l 2 rfl)])) (fun hpk => by first | (simp [go_sem, hpk, a.e 76 (l 2 rfl), a.e 78 ((l 4 rfl).1 hpk)]; done) | (have hpk' := hpk; simp at hpk'; simp [go_sem, hpk', hpk, a.e 76 (l 2 rfl), a.e 78 ((l 4 rfl).1 hpk)])), trivial⟩ ?_
      intro f44 s44 W44 hB44 g44 hg44
      have fB44 := hB44.f fB_258
      have z44 := hB44.below.size
      have b44_0 := hB44.b b_258_0
      have b44_1 := hB44.b b_258_1
      have b44_2 := hB44.b b_258_2
      have b44_3 := hB44.b m_258_0
      have q265' := (q259'.bw hB44)
      have q266' := (q260'.bw hB44)
      have q267' := (q261'.bw hB44)
      have q268' := (hB44.lt q262')
      have q269' := (hB44.lt q263')
      have q270' := (hB44.lt q264')
      refine hK37 _ _ ?_
      have k44_3 := kt hg44 3 k_258_3
      have k44_4 := kt hg44 4 k_258_4
      have k44_6 := kt hg44 6 k_258_6
      have k44_7 := kt hg44 7 k_258_7
      have k44_8 := kt hg44 8 k_258_8
      have k44_9 := kt hg44 9 k_258_9
      have k44_18 := kt hg44 18 k_258_18
      have k44_17 := kt hg44 17 k_258_17
      have k44_79 := kt hg44 79 (hB44.is 5)
      refine wp_cond_split (t := (decide (((m : Int) + 1) ≤ 3000)) && (decide (0 ≤ ((Hs m).2)))) ((fr_eval rfl).trans k44_79) (fun hc38 => ?_) (fun hc38 => ?_)
      ·
        have hc38' := hc38; try simp only [ba] at hc38'
        have hm3 : m < 3000 := by have := hc38'.1; omega
        have h0 : 0 ≤ (Hs m).2 := by have := hc38'.2; omega
        have hhk := hHk m
        refine wp_skip ?_
        refine hK36 _ _ ?_
        refine wp_seq_k fun K39 hK39 => ?_
        refine wp_block ?_
        refine wp_seq_k fun K40 hK40 => ?_
        refine region_dk 2 [(82, 0), (83, 1)] [[], [0], [0, 1]] (rel [is (.int .i64 ((m : Int) + 1)),
      is (.pointer (some ⟨(s2 7), 2, none⟩))])
          ⟨is_k, is_k, trivial⟩
          ⟨fun f s W j l p q r a => opv rfl rfl (by simp [go_sem, a.e 18 k44_18]) rfl,
    fun f s W j l p q r a => opv rfl rfl (by simp [go_sem, a.e 8 k44_8]) rfl, trivial⟩ ?_
        intro f45 s45 W45 hB45 g45 hg45
        have fB45 := hB45.f fB44
        have z45 := hB45.below.size
        have b45_0 := hB45.b b44_0
        have b45_1 := hB45.b b44_1
        have b45_2 := hB45.b b44_2
        have b45_3 := hB45.b b44_3
        have q271' := (q265'.bw hB45)
        have q272' := (q266'.bw hB45)
        have q273' := (q267'.bw hB45)
        have q274' := (hB45.lt q268')
        have q275' := (hB45.lt q269')
        have q276' := (hB45.lt q270')
        have k45_3 := kt hg45 3 k44_3
        have k45_4 := kt hg45 4 k44_4
        have k45_6 := kt hg45 6 k44_6
        have k45_7 := kt hg45 7 k44_7
        have k45_8 := kt hg45 8 k44_8
        have k45_9 := kt hg45 9 k44_9
        have k45_18 := kt hg45 18 k44_18
        have k45_17 := kt hg45 17 k44_17
        have k45_82 := kt hg45 82 (hB45.is 0)
        have k45_83 := kt hg45 83 (hB45.is 1)
        obtain ⟨W46, hW46⟩ : ∃ W', W' = W45.setRow (s2 7) #[.int .i64 ((Ou 4).1.tab), .slice (some ⟨pa, 0, none⟩) ((Ou 4).1.panels.length) (pc), .int .i64 ((m : Int) + 1), .slice (some ⟨ta, 0, none⟩) ((Ou 4).1.top.length) (tc), .slice (some ⟨da, 0, none⟩) ((Ou 4).1.bottom.length) (dc), .int .i64 ((Ou 4).1.slot), .bool ((Ou 4).1.isOpen)] := ⟨_, rfl⟩
        refine tail_skip (o := _) rfl ⟨rfl, rfl⟩ (run_seg hW46 (fr_ev k45_83) (fr_ev k45_82) b45_3 rfl rfl rfl rfl) ?_
        obtain ⟨fB46, nb46, ot46, z46⟩ := seg_facts hW46 fB45 b45_3 (by omega)
        clear hW46
        have b46_0 := ot46 _ _ (by omega) b45_0
        have b46_1 := ot46 _ _ (by omega) b45_1
        have b46_2 := ot46 _ _ (by omega) b45_2
        have q277' := (q271'.other ot46 q274' (by omega) z46)
        have q278' := (q272'.other ot46 q275' (by omega) z46)
        have q279' := (q273'.other ot46 q276' (by omega) z46)
        have q280' := Nat.lt_of_lt_of_le q274' z46
        have q281' := Nat.lt_of_lt_of_le q275' z46
        have q282' := Nat.lt_of_lt_of_le q276' z46
        refine wpOps_end ?_
        refine hK40 _ _ ?_
        refine wp_seq_k fun K41 hK41 => ?_
        refine region_dk 5 [(84, 0), (85, 1), (86, 2), (87, 3), (88, 4)] [[], [], [], [], [0, 1, 2, 3]] (rel [is (.agg #[.int .i64 ((Ou 4).1.tab), .slice (some ⟨pa, 0, none⟩) ((Ou 4).1.panels.length) (pc), .int .i64 ((m : Int) + 1), .slice (some ⟨ta, 0, none⟩) ((Ou 4).1.top.length) (tc), .slice (some ⟨da, 0, none⟩) ((Ou 4).1.bottom.length) (dc), .int .i64 ((Ou 4).1.slot), .bool ((Ou 4).1.isOpen)]),
      is (.agg #[.int .i64 vi.length.1, .int .i64 vi.length.2, .int .i64 vi.width.1, .int .i64 vi.width.2, .int .i64 vi.height.1, .int .i64 vi.height.2, .int .i64 vi.outer.1, .int .i64 vi.outer.2, .int .i64 vi.inner.1, .int .i64 vi.inner.2, .bool vi.isOpen]),
      is (.agg #[.int .i64 lo, .int .i64 hi]),
      row 3 1 #[.int .i64 4] 3,
      is (.bool (alwR (setH (Ou 4).1 ((m : Int) + 1)) vi (lo, hi) 4))])
          ⟨is_k, is_k, is_k, row_k, is_k, trivial⟩
          ⟨fun f s W j l p q r a => opv rfl rfl (by simp [go_sem, a.e 8 k45_8, cb nb46 j 0, cb nb46 j 1, cb nb46 j 2, cb nb46 j 3, cb nb46 j 4, cb nb46 j 5, cb nb46 j 6]) rfl,
    fun f s W j l p q r a => opv rfl rfl (by simp [go_sem, a.e 3 k45_3, cb b46_0 j 0, cb b46_0 j 1, cb b46_0 j 2, cb b46_0 j 3, cb b46_0 j 4, cb b46_0 j 5, cb b46_0 j 6, cb b46_0 j 7, cb b46_0 j 8, cb b46_0 j 9, cb b46_0 j 10]) rfl,
    fun f s W j l p q r a => opv rfl rfl (by simp [go_sem, a.e 4 k45_4, cb b46_1 j 0, cb b46_1 j 1]) rfl,
    fun f s W j l p q r a => opr rfl rfl (by simp [go_sem]),
    fun f s W j l p q r a => opc (args := #[.agg #[.int .i64 ((Ou 4).1.tab), .slice (some ⟨pa, 0, none⟩) ((Ou 4).1.panels.length) (pc), .int .i64 ((m : Int) + 1), .slice (some ⟨ta, 0, none⟩) ((Ou 4).1.top.length) (tc), .slice (some ⟨da, 0, none⟩) ((Ou 4).1.bottom.length) (dc), .int .i64 ((Ou 4).1.slot), .bool ((Ou 4).1.isOpen)], .agg #[.int .i64 vi.length.1, .int .i64 vi.length.2, .int .i64 vi.width.1, .int .i64 vi.width.2, .int .i64 vi.height.1, .int .i64 vi.height.2, .int .i64 vi.outer.1, .int .i64 vi.outer.2, .int .i64 vi.inner.1, .int .i64 vi.inner.2, .bool vi.isOpen], .agg #[.int .i64 lo, .int .i64 hi], .slice (some ⟨(s 3), 0, none⟩) (1) (1)]) rfl rfl (by simp [go_sem, a.e 84 (l 0 rfl), a.e 85 (l 1 rfl), a.e 86 (l 2 rfl), a.e 87 (l 3 rfl).1]) (always_blk (b := setH (Ou 4).1 ((m : Int) + 1)) vi 4 4 lo hi _ _ W ⟨_, _, _, _, _, _, _, _, _, rfl, ((q277'.below j (Nat.le_refl _))), ((q278'.below j (Nat.le_refl _))), ((q279'.below j (Nat.le_refl _)))⟩ (ii_block (xs := [4]) (l 3 rfl).2 rfl rfl) (setH_ok hok4.1 ⟨by omega, by omega⟩) hw rfl (by decide) gl glh gh), trivial⟩ ?_
        intro f47 s47 W47 hB47 g47 hg47
        have fB47 := hB47.f fB46
        have z47 := hB47.below.size
        have b47_0 := hB47.b b46_0
        have b47_1 := hB47.b b46_1
        have b47_2 := hB47.b b46_2
        have b47_3 := hB47.b nb46
        have q283' := (q277'.bw hB47)
        have q284' := (q278'.bw hB47)
        have q285' := (q279'.bw hB47)
        have q286' := (hB47.lt q280')
        have q287' := (hB47.lt q281')
        have q288' := (hB47.lt q282')
        obtain ⟨r47_3, br47_3⟩ := hB47.is 3
        have lr47_3 := hB47.lr 3 br47_3
        refine hK41 _ _ ?_
        have k47_3 := kt hg47 3 k45_3
        have k47_4 := kt hg47 4 k45_4
        have k47_6 := kt hg47 6 k45_6
        have k47_7 := kt hg47 7 k45_7
        have k47_8 := kt hg47 8 k45_8
        have k47_9 := kt hg47 9 k45_9
        have k47_18 := kt hg47 18 k45_18
        have k47_17 := kt hg47 17 k45_17
        have k47_88 := kt hg47 88 (hB47.is 4)
        refine wp_cond_split (t := alwR (setH (Ou 4).1 ((m : Int) + 1)) vi (lo, hi) 4) ((fr_eval rfl).trans k47_88) (fun hc42 => ?_) (fun hc42 => ?_)
        ·
          have hc42' := hc42; try simp only [ba] at hc42'
          refine region_dk 1 [(17, 0)] [[]] (rel [is (.int .i64 (-1))])
            ⟨is_k, trivial⟩
            ⟨fun f s W j l p q r a => opv rfl rfl (by simp [go_sem]) rfl, trivial⟩ ?_
          intro f48 s48 W48 hB48 g48 hg48
          have fB48 := hB48.f fB47
          have z48 := hB48.below.size
          have b48_0 := hB48.b b47_0
          have b48_1 := hB48.b b47_1
          have b48_2 := hB48.b b47_2
          have b48_3 := hB48.b b47_3
          have b48_4 := hB48.b br47_3
          have q289' := (q283'.bw hB48)
          have q290' := (q284'.bw hB48)
          have q291' := (q285'.bw hB48)
          have q292' := (hB48.lt q286')
          have q293' := (hB48.lt q287')
          have q294' := (hB48.lt q288')
          refine wpOps_end ?_
          have k48_3 := kt hg48 3 k47_3
          have k48_4 := kt hg48 4 k47_4
          have k48_6 := kt hg48 6 k47_6
          have k48_7 := kt hg48 7 k47_7
          have k48_8 := kt hg48 8 k47_8
          have k48_9 := kt hg48 9 k47_9
          have k48_18 := kt hg48 18 k47_18
          have k48_17 := kt hg48 17 (hB48.is 0)
          refine inBlock_normal ?_
          refine hK39 _ _ ?_
          refine region_dk 3 [(80, 0), (81, 1), (18, 2)] [[], [0], [0, 1]] (rel [is (.int .i64 ((m : Int) + 1)),
      is (.int .i64 (((m : Int) + 1) + 1)),
      is (.int .i64 (((m : Int) + 1) + 1))])
            ⟨is_k, is_k, is_k, trivial⟩
            ⟨fun f s W j l p q r a => opv rfl rfl (by simp [go_sem, a.e 18 ((q 2 18 rfl rfl).trans k48_18)]) rfl,
    fun f s W j l p q r a => opv rfl rfl (by simp [go_sem, a.e 80 (l 0 rfl), IntWalk.i64_in (((m : Int) + 1) + 1) (by omega)]) rfl,
    fun f s W j l p q r a => opv rfl rfl (by simp [go_sem, a.e 81 (l 1 rfl)]) rfl, trivial⟩ ?_
          intro f49 s49 W49 hB49 g49 hg49
          have fB49 := hB49.f fB48
          have z49 := hB49.below.size
          have b49_0 := hB49.b b48_0
          have b49_1 := hB49.b b48_1
          have b49_2 := hB49.b b48_2
          have b49_3 := hB49.b b48_3
          have b49_4 := hB49.b b48_4
          have q295' := (q289'.bw hB49)
          have q296' := (q290'.bw hB49)
          have q297' := (q291'.bw hB49)
          have q298' := (hB49.lt q292')
          have q299' := (hB49.lt q293')
          have q300' := (hB49.lt q294')
          refine wpOps_end ?_
          have k49_3 := kt hg49 3 k48_3
          have k49_4 := kt hg49 4 k48_4
          have k49_6 := kt hg49 6 k48_6
          have k49_7 := kt hg49 7 k48_7
          have k49_8 := kt hg49 8 k48_8
          have k49_9 := kt hg49 9 k48_9
          have k49_17 := kt hg49 17 k48_17
          have k49_18 := kt hg49 18 (hB49.is 2)
          refine then_normal ?_
          have hnx : Hs (m + 1) = ((m : Int) + 1, -1) := by rw [hHn m h0, if_pos hc42]
          exact ⟨_, by omega, g49, rfl, m + 1, rfl, k49_3, k49_4, k49_6, k49_7, k49_8, k49_9, k49_18.trans (by go_num), k49_17.trans (by rw [hnx]), fB49, (by omega), b49_0, b49_1, b49_2, (by rw [hnx]; exact b49_3), q295', q296', q297', q298', q299', q300', (by omega)⟩
        ·
          have hc42' := hc42; try simp only [ba] at hc42'
          refine wp_skip ?_
          refine inBlock_normal ?_
          refine hK39 _ _ ?_
          refine region_dk 3 [(80, 0), (81, 1), (18, 2)] [[], [0], [0, 1]] (rel [is (.int .i64 ((m : Int) + 1)),
      is (.int .i64 (((m : Int) + 1) + 1)),
      is (.int .i64 (((m : Int) + 1) + 1))])
            ⟨is_k, is_k, is_k, trivial⟩
            ⟨fun f s W j l p q r a => opv rfl rfl (by simp [go_sem, a.e 18 ((q 2 18 rfl rfl).trans k47_18)]) rfl,
    fun f s W j l p q r a => opv rfl rfl (by simp [go_sem, a.e 80 (l 0 rfl), IntWalk.i64_in (((m : Int) + 1) + 1) (by omega)]) rfl,
    fun f s W j l p q r a => opv rfl rfl (by simp [go_sem, a.e 81 (l 1 rfl)]) rfl, trivial⟩ ?_
          intro f50 s50 W50 hB50 g50 hg50
          have fB50 := hB50.f fB47
          have z50 := hB50.below.size
          have b50_0 := hB50.b b47_0
          have b50_1 := hB50.b b47_1
          have b50_2 := hB50.b b47_2
          have b50_3 := hB50.b b47_3
          have b50_4 := hB50.b br47_3
          have q301' := (q283'.bw hB50)
          have q302' := (q284'.bw hB50)
          have q303' := (q285'.bw hB50)
          have q304' := (hB50.lt q286')
          have q305' := (hB50.lt q287')
          have q306' := (hB50.lt q288')
          refine wpOps_end ?_
          have k50_3 := kt hg50 3 k47_3
          have k50_4 := kt hg50 4 k47_4
          have k50_6 := kt hg50 6 k47_6
          have k50_7 := kt hg50 7 k47_7
          have k50_8 := kt hg50 8 k47_8
          have k50_9 := kt hg50 9 k47_9
          have k50_17 := kt hg50 17 k47_17
          have k50_18 := kt hg50 18 (hB50.is 2)
          refine then_normal ?_
          have hnx : Hs (m + 1) = ((m : Int) + 1, (Hs m).2) := by rw [hHn m h0, if_neg (by rw [hc42]; exact Bool.false_ne_true)]
          exact ⟨_, by omega, g50, rfl, m + 1, rfl, k50_3, k50_4, k50_6, k50_7, k50_8, k50_9, k50_18.trans (by go_num), k50_17.trans (by rw [hnx]), fB50, (by omega), b50_0, b50_1, b50_2, (by rw [hnx]; exact b50_3), q301', q302', q303', q304', q305', q306', (by omega)⟩
      ·
        have hc38' := hc38; try simp only [ba] at hc38'
        have hfinH : Hs m = Hs 3000 := by
          rcases Nat.lt_or_ge m 3000 with h' | h'
          · exact hHe m (by rcases Bool.and_eq_false_iff.1 hc38 with h2 | h2 <;> have h3 := of_decide_eq_false h2 <;> omega) (by omega)
          · rw [show m = 3000 by omega]
        have hhk := hHk m
        refine wp_exit ?_
        refine then_exit ?_
        refine then_exit ?_
        refine inBlock_at ?_
        refine hK34 _ _ ?_
        refine wp_seq_k fun K43 hK43 => ?_
        suffices J307' : ∀ (g_ : Nat → Value) (W_ : World), (g_ 3 = .pointer (some ⟨(s1 0), 0, none⟩) ∧ g_ 4 = .pointer (some ⟨(s1 1), 0, none⟩) ∧ g_ 6 = .pointer (some ⟨(s1 2), 0, none⟩) ∧ g_ 7 = .int .i64 0 ∧ g_ 8 = .pointer (some ⟨(s2 7), 0, none⟩) ∧ g_ 18 = .int .i64 ((m : Int) + 1) ∧ g_ 17 = .int .i64 ((Hs m).2) ∧ g_ 79 = .bool ((decide (((m : Int) + 1) ≤ 3000)) && (decide (0 ≤ ((Hs m).2)))) ∧ g_ 9 = .int .i64 ((if 0 ≤ (Hs 3000).2 then min (Ou 4).2 (Hs 3000).2 else (Ou 4).2)) ∧ Below w.heap.size w W_ ∧ W44.heap.size ≤ W_.heap.size ∧ W_.heap[(s1 0)]? = some (.cells #[.int .i64 vi.length.1, .int .i64 vi.length.2, .int .i64 vi.width.1, .int .i64 vi.width.2, .int .i64 vi.height.1, .int .i64 vi.height.2, .int .i64 vi.outer.1, .int .i64 vi.outer.2, .int .i64 vi.inner.1, .int .i64 vi.inner.2, .bool vi.isOpen] 43 (0, 0)) ∧ W_.heap[(s1 1)]? = some (.cells #[.int .i64 lo, .int .i64 hi] 26 (0, 0)) ∧ W_.heap[(s1 2)]? = some (.cells #[.int .i64 0, .slice (none) (0) (0), .int .i64 0, .slice (none) (0) (0), .slice (none) (0) (0), .int .i64 0, .bool false] 24 (0, 0)) ∧ W_.heap[(s2 7)]? = some (.cells #[.int .i64 ((Ou 4).1.tab), .slice (some ⟨pa, 0, none⟩) ((Ou 4).1.panels.length) (pc), .int .i64 ((Hs m).1), .slice (some ⟨ta, 0, none⟩) ((Ou 4).1.top.length) (tc), .slice (some ⟨da, 0, none⟩) ((Ou 4).1.bottom.length) (dc), .int .i64 ((Ou 4).1.slot), .bool ((Ou 4).1.isOpen)] 24 (0, 0)) ∧ Ii W_ (some ⟨pa, 0, none⟩) (Ou 4).1.panels.length pc (Ou 4).1.panels ∧ Ii W_ (some ⟨ta, 0, none⟩) (Ou 4).1.top.length tc (Ou 4).1.top ∧ Ii W_ (some ⟨da, 0, none⟩) (Ou 4).1.bottom.length dc (Ou 4).1.bottom ∧ pa < W_.heap.size ∧ ta < W_.heap.size ∧ da < W_.heap.size) → K43 (fr 112 g_) W_ by
          refine wp_seq_k fun K44 hK44 => ?_
          refine region_dk 2 [(89, 0), (90, 1)] [[], [0]] (rel [is (.int .i64 ((Hs m).2)),
      is (.bool (decide (0 ≤ ((Hs m).2))))])
            ⟨is_k, is_k, trivial⟩
            ⟨fun f s W j l p q r a => opv rfl rfl (by simp [go_sem, a.e 17 k44_17]) rfl,
    fun f s W j l p q r a => opv rfl rfl (by simp [go_sem, a.e 89 (l 0 rfl)]) rfl, trivial⟩ ?_
          intro f51 s51 W51 hB51 g51 hg51
          have fB51 := hB51.f fB44
          have z51 := hB51.below.size
          have b51_0 := hB51.b b44_0
          have b51_1 := hB51.b b44_1
          have b51_2 := hB51.b b44_2
          have b51_3 := hB51.b b44_3
          have q308' := (q265'.bw hB51)
          have q309' := (q266'.bw hB51)
          have q310' := (q267'.bw hB51)
          have q311' := (hB51.lt q268')
          have q312' := (hB51.lt q269')
          have q313' := (hB51.lt q270')
          refine hK44 _ _ ?_
          have k51_3 := kt hg51 3 k44_3
          have k51_4 := kt hg51 4 k44_4
          have k51_6 := kt hg51 6 k44_6
          have k51_7 := kt hg51 7 k44_7
          have k51_8 := kt hg51 8 k44_8
          have k51_9 := kt hg51 9 k44_9
          have k51_18 := kt hg51 18 k44_18
          have k51_17 := kt hg51 17 k44_17
          have k51_79 := kt hg51 79 k44_79
          have k51_90 := kt hg51 90 (hB51.is 1)
          refine wp_cond_split (t := decide (0 ≤ ((Hs m).2))) ((fr_eval rfl).trans k51_90) (fun hc45 => ?_) (fun hc45 => ?_)
          ·
            have hc45' := hc45; try simp only [ba] at hc45'
            refine region_dk 4 [(91, 0), (92, 1), (93, 2), (9, 3)] [[], [], [0, 1], [0, 1, 2]] (rel [is (.int .i64 ((Ou 4).2)),
      is (.int .i64 ((Hs m).2)),
      is (.int .i64 (min ((Ou 4).2) ((Hs m).2))),
      is (.int .i64 (min ((Ou 4).2) ((Hs m).2)))])
              ⟨is_k, is_k, is_k, is_k, trivial⟩
              ⟨fun f s W j l p q r a => opv rfl rfl (by simp [go_sem, a.e 9 ((q 3 9 rfl rfl).trans k51_9)]) rfl,
    fun f s W j l p q r a => opv rfl rfl (by simp [go_sem, a.e 17 k51_17]) rfl,
    fun f s W j l p q r a => opv rfl rfl (by simp [go_sem, a.e 91 (l 0 rfl), a.e 92 (l 1 rfl)]) rfl,
    fun f s W j l p q r a => opv rfl rfl (by simp [go_sem, a.e 93 (l 2 rfl)]) rfl, trivial⟩ ?_
            intro f52 s52 W52 hB52 g52 hg52
            have fB52 := hB52.f fB51
            have z52 := hB52.below.size
            have b52_0 := hB52.b b51_0
            have b52_1 := hB52.b b51_1
            have b52_2 := hB52.b b51_2
            have b52_3 := hB52.b b51_3
            have q314' := (q308'.bw hB52)
            have q315' := (q309'.bw hB52)
            have q316' := (q310'.bw hB52)
            have q317' := (hB52.lt q311')
            have q318' := (hB52.lt q312')
            have q319' := (hB52.lt q313')
            refine wpOps_end ?_
            have k52_3 := kt hg52 3 k51_3
            have k52_4 := kt hg52 4 k51_4
            have k52_6 := kt hg52 6 k51_6
            have k52_7 := kt hg52 7 k51_7
            have k52_8 := kt hg52 8 k51_8
            have k52_18 := kt hg52 18 k51_18
            have k52_17 := kt hg52 17 k51_17
            have k52_79 := kt hg52 79 k51_79
            have k52_9 := kt hg52 9 (hB52.is 3)
            exact J307' _ _ ⟨k52_3, k52_4, k52_6, k52_7, k52_8, k52_18, k52_17, k52_79, k52_9.trans (by rw [← hfinH, if_pos (by have := of_decide_eq_true hc45; omega)]), fB52, (by omega), b52_0, b52_1, b52_2, b52_3, q314', q315', q316', q317', q318', q319'⟩
          ·
            have hc45' := hc45; try simp only [ba] at hc45'
            refine wp_skip ?_
            exact J307' _ _ ⟨k51_3, k51_4, k51_6, k51_7, k51_8, k51_18, k51_17, k51_79, k51_9.trans (by rw [← hfinH, if_neg (by have := of_decide_eq_false hc45; omega)]), fB51, (by omega), b51_0, b51_1, b51_2, b51_3, q308', q309', q310', q311', q312', q313'⟩
        rintro g_320 W_320 ⟨k_320_3, k_320_4, k_320_6, k_320_7, k_320_8, k_320_18, k_320_17, k_320_79, k_320_9, fB_320, z_320, b_320_0, b_320_1, b_320_2, b_320_3, q321', q322', q323', q324', q325', q326'⟩
        refine hK43 _ _ ?_
        refine wp_seq_k fun K46 hK46 => ?_
        refine wp_block ?_
        refine wp_loop_n (fun m_ a_ W_ => ∃ g_ : Nat → Value, a_ = fr 112 g_ ∧ (∃ sl : Int, m_ = sl.toNat ∧ g_ 3 = .pointer (some ⟨(s1 0), 0, none⟩) ∧ g_ 4 = .pointer (some ⟨(s1 1), 0, none⟩) ∧ g_ 6 = .pointer (some ⟨(s1 2), 0, none⟩) ∧ g_ 7 = .int .i64 0 ∧ g_ 8 = .pointer (some ⟨(s2 7), 0, none⟩) ∧ g_ 18 = .int .i64 ((m : Int) + 1) ∧ g_ 17 = .int .i64 ((Hs m).2) ∧ g_ 79 = .bool ((decide (((m : Int) + 1) ≤ 3000)) && (decide (0 ≤ ((Hs m).2)))) ∧ g_ 9 = .int .i64 ((if 0 ≤ (Hs 3000).2 then min (Ou 4).2 (Hs 3000).2 else (Ou 4).2)) ∧ Below w.heap.size w W_ ∧ W_320.heap.size ≤ W_.heap.size ∧ W_.heap[(s1 0)]? = some (.cells #[.int .i64 vi.length.1, .int .i64 vi.length.2, .int .i64 vi.width.1, .int .i64 vi.width.2, .int .i64 vi.height.1, .int .i64 vi.height.2, .int .i64 vi.outer.1, .int .i64 vi.outer.2, .int .i64 vi.inner.1, .int .i64 vi.inner.2, .bool vi.isOpen] 43 (0, 0)) ∧ W_.heap[(s1 1)]? = some (.cells #[.int .i64 lo, .int .i64 hi] 26 (0, 0)) ∧ W_.heap[(s1 2)]? = some (.cells #[.int .i64 0, .slice (none) (0) (0), .int .i64 0, .slice (none) (0) (0), .slice (none) (0) (0), .int .i64 0, .bool false] 24 (0, 0)) ∧ W_.heap[(s2 7)]? = some (.cells #[.int .i64 ((Ou 4).1.tab), .slice (some ⟨pa, 0, none⟩) ((Ou 4).1.panels.length) (pc), .int .i64 ((Hs m).1), .slice (some ⟨ta, 0, none⟩) ((Ou 4).1.top.length) (tc), .slice (some ⟨da, 0, none⟩) ((Ou 4).1.bottom.length) (dc), .int .i64 sl, .bool ((Ou 4).1.isOpen)] 24 (0, 0)) ∧ Ii W_ (some ⟨pa, 0, none⟩) (Ou 4).1.panels.length pc (Ou 4).1.panels ∧ Ii W_ (some ⟨ta, 0, none⟩) (Ou 4).1.top.length tc (Ou 4).1.top ∧ Ii W_ (some ⟨da, 0, none⟩) (Ou 4).1.bottom.length dc (Ou 4).1.bottom ∧ pa < W_.heap.size ∧ ta < W_.heap.size ∧ da < W_.heap.size ∧ (0 ≤ sl) ∧ (sl ≤ 20) ∧ (sl = 20 ∨ hi ≤ 1000 * sl))) ⟨_, g_320, rfl, 20, rfl, k_320_3, k_320_4, k_320_6, k_320_7, k_320_8, k_320_18, k_320_17, k_320_79, k_320_9, fB_320, Nat.le_refl _, b_320_0, b_320_1, b_320_2, (by rw [← hOl]; exact b_320_3), q321', q322', q323', q324', q325', q326', (by omega), (by omega), (.inl rfl)⟩ ?_
        rintro _ _ W_327 ⟨g_327, rfl, sl, rfl, k_327_3, k_327_4, k_327_6, k_327_7, k_327_8, k_327_18, k_327_17, k_327_79, k_327_9, fB_327, z_327, b_327_0, b_327_1, b_327_2, m_327_0, q328', q329', q330', q331', q332', q333', op_0, op_1, op_2⟩
        refine wp_seq_k fun K47 hK47 => ?_
        refine wp_seq_k fun K48 hK48 => ?_
        refine region_dk 12 [(94, 0), (95, 1), (96, 2), (97, 3), (98, 4), (99, 5), (100, 6), (101, 7), (102, 8), (103, 9), (104, 10), (105, 11)] [[], [0], [0, 1], [0, 1, 2], [0, 1, 2, 3], [0, 1, 2, 3, 4], [0, 1, 2, 3, 4, 5], [0, 1, 2, 3, 4, 5, 6], [0, 1, 2, 3], [0, 1, 2, 3, 8], [0, 1, 2, 3, 4, 5, 6, 7, 8, 9], [0, 1, 2, 3, 4, 5, 6, 7, 8, 9, 10]] (rel [is (.pointer (some ⟨(s2 7), 5, none⟩)),
      is (.int .i64 sl),
      is (.bool (decide (0 < sl))),
      is (.bool (decide (0 < sl))),
      gd (decide (0 < sl)) true (is (.pointer (some ⟨(s2 7), 5, none⟩))),
      gd (decide (0 < sl)) true (is (.int .i64 sl)),
      gd (decide (0 < sl)) true (is (.int .i64 (sl - 1))),
      gd (decide (0 < sl)) true (is (.int .i64 (1000 * (sl - 1)))),
      gd (decide (0 < sl)) true (is (.pointer (some ⟨(s1 1), 1, none⟩))),
      gd (decide (0 < sl)) true (is (.int .i64 hi)),
      gd (decide (0 < sl)) true (is (.bool (decide (hi ≤ (1000 * (sl - 1)))))),
      is (.bool ((decide (0 < sl)) && (decide (hi ≤ (1000 * (sl - 1))))))])
          ⟨is_k, is_k, is_k, is_k, gd_k (is_k), gd_k (is_k), gd_k (is_k), gd_k (is_k), gd_k (is_k), gd_k (is_k), gd_k (is_k), is_k, trivial⟩
          ⟨fun f s W j l p q r a => opv rfl rfl (by simp [go_sem, a.e 8 k_327_8]) rfl,
    fun f s W j l p q r a => opv rfl rfl (by simp [go_sem, a.e 94 (l 0 rfl), cb m_327_0 j 5]) rfl,
    fun f s W j l p q r a => opv rfl rfl (by simp [go_sem, a.e 95 (l 1 rfl)]) rfl,
    fun f s W j l p q r a => opv rfl rfl (by simp [go_sem, a.e 96 (l 2 rfl)]) rfl,
    fun f s W j l p q r a => gdo rfl rfl (a.says (d := 97) rfl rfl (l 3 rfl)) fun hgd0 => gv (by simp [go_sem, a.e 8 k_327_8]) rfl,
    fun f s W j l p q r a => gdo rfl rfl (a.says (d := 97) rfl rfl (l 3 rfl)) fun hgd0 => gv (by simp [go_sem, a.e 98 ((l 4 rfl).1 hgd0), cb m_327_0 j 5]) rfl,
    fun f s W j l p q r a => gdo rfl rfl (a.says (d := 97) rfl rfl (l 3 rfl)) fun hgd0 => gv (by simp [go_sem, a.e 99 ((l 5 rfl).1 hgd0), IntWalk.i64_in (sl - 1) (by omega)]) rfl,
    fun f s W j l p q r a => gdo rfl rfl (a.says (d := 97) rfl rfl (l 3 rfl)) fun hgd0 => gv (by simp [go_sem, a.e 100 ((l 6 rfl).1 hgd0), IntWalk.i64_in (1000 * (sl - 1)) (by omega)]) rfl,
    fun f s W j l p q r a => gdo rfl rfl (a.says (d := 97) rfl rfl (l 3 rfl)) fun hgd0 => gv (by simp [go_sem, a.e 4 k_327_4]) rfl,
    fun f s W j l p q r a => gdo rfl rfl (a.says (d := 97) rfl rfl (l 3 rfl)) fun hgd0 => gv (by simp [go_sem, a.e 102 ((l 8 rfl).1 hgd0), cb b_327_1 j 1]) rfl,
    fun f s W j l p q r a => gdo rfl rfl (a.says (d := 97) rfl rfl (l 3 rfl)) fun hgd0 => gv (by simp [go_sem, a.e 101 ((l 7 rfl).1 hgd0), a.e 103 ((l 9 rfl).1 hgd0)]) rfl,
    fun f s W j l p q r a => opk (c := decide (0 < sl)) rfl rfl (fun hpk => by first | (simp [go_sem, hpk, a.e 97 (l 3 rfl)]; done) | (have hpk' := hpk; simp at hpk'; simp [go_sem, hpk', hpk, a.e 97 (l 3 rfl)])) (fun hpk => by first | (simp [go_sem, hpk, a.e 97 (l 3 rfl), a.e 104 ((l 10 rfl).1 hpk)]; done) | (have hpk' := hpk; simp at hpk'; simp [go_sem, hpk', hpk, a.e 97 (l 3 rfl), a.e 104 ((l 10 rfl).1 hpk)])), trivial⟩ ?_
        intro f53 s53 W53 hB53 g53 hg53
        have fB53 := hB53.f fB_327
        have z53 := hB53.below.size
        have b53_0 := hB53.b b_327_0
        have b53_1 := hB53.b b_327_1
        have b53_2 := hB53.b b_327_2
        have b53_3 := hB53.b m_327_0
        have q334' := (q328'.bw hB53)
        have q335' := (q329'.bw hB53)
        have q336' := (q330'.bw hB53)
        have q337' := (hB53.lt q331')
        have q338' := (hB53.lt q332')
        have q339' := (hB53.lt q333')
        refine hK48 _ _ ?_
        have k53_3 := kt hg53 3 k_327_3
        have k53_4 := kt hg53 4 k_327_4
        have k53_6 := kt hg53 6 k_327_6
        have k53_7 := kt hg53 7 k_327_7
        have k53_8 := kt hg53 8 k_327_8
        have k53_18 := kt hg53 18 k_327_18
        have k53_17 := kt hg53 17 k_327_17
        have k53_79 := kt hg53 79 k_327_79
        have k53_9 := kt hg53 9 k_327_9
        have k53_105 := kt hg53 105 (hB53.is 11)
        refine wp_cond_split (t := (decide (0 < sl)) && (decide (hi ≤ (1000 * (sl - 1))))) ((fr_eval rfl).trans k53_105) (fun hc49 => ?_) (fun hc49 => ?_)
        ·
          have hc49' := hc49; try simp only [ba] at hc49'
          have hsl1 := hc49'.1
          have hsl2 := hc49'.2
          refine wp_skip ?_
          refine hK47 _ _ ?_
          refine wp_block ?_
          refine region_dk 4 [(106, 0), (107, 1), (108, 2), (109, 3)] [[], [0], [0, 1], [0, 1, 2], [0, 1, 2, 3]] (rel [is (.pointer (some ⟨(s2 7), 5, none⟩)),
      is (.int .i64 sl),
      is (.int .i64 (sl - 1)),
      is (.pointer (some ⟨(s2 7), 5, none⟩))])
            ⟨is_k, is_k, is_k, is_k, trivial⟩
            ⟨fun f s W j l p q r a => opv rfl rfl (by simp [go_sem, a.e 8 k53_8]) rfl,
    fun f s W j l p q r a => opv rfl rfl (by simp [go_sem, a.e 106 (l 0 rfl), cb b53_3 j 5]) rfl,
    fun f s W j l p q r a => opv rfl rfl (by simp [go_sem, a.e 107 (l 1 rfl), IntWalk.i64_in (sl - 1) (by omega)]) rfl,
    fun f s W j l p q r a => opv rfl rfl (by simp [go_sem, a.e 8 k53_8]) rfl, trivial⟩ ?_
          intro f54 s54 W54 hB54 g54 hg54
          have fB54 := hB54.f fB53
          have z54 := hB54.below.size
          have b54_0 := hB54.b b53_0
          have b54_1 := hB54.b b53_1
          have b54_2 := hB54.b b53_2
          have b54_3 := hB54.b b53_3
          have q340' := (q334'.bw hB54)
          have q341' := (q335'.bw hB54)
          have q342' := (q336'.bw hB54)
          have q343' := (hB54.lt q337')
          have q344' := (hB54.lt q338')
          have q345' := (hB54.lt q339')
          have k54_3 := kt hg54 3 k53_3
          have k54_4 := kt hg54 4 k53_4
          have k54_6 := kt hg54 6 k53_6
          have k54_7 := kt hg54 7 k53_7
          have k54_8 := kt hg54 8 k53_8
          have k54_18 := kt hg54 18 k53_18
          have k54_17 := kt hg54 17 k53_17
          have k54_79 := kt hg54 79 k53_79
          have k54_9 := kt hg54 9 k53_9
          have k54_108 := kt hg54 108 (hB54.is 2)
          have k54_109 := kt hg54 109 (hB54.is 3)
          obtain ⟨W55, hW55⟩ : ∃ W', W' = W54.setRow (s2 7) #[.int .i64 ((Ou 4).1.tab), .slice (some ⟨pa, 0, none⟩) ((Ou 4).1.panels.length) (pc), .int .i64 ((Hs m).1), .slice (some ⟨ta, 0, none⟩) ((Ou 4).1.top.length) (tc), .slice (some ⟨da, 0, none⟩) ((Ou 4).1.bottom.length) (dc), .int .i64 (sl - 1), .bool ((Ou 4).1.isOpen)] := ⟨_, rfl⟩
          refine tail_skip (o := _) rfl ⟨rfl, rfl⟩ (run_seg hW55 (fr_ev k54_109) (fr_ev k54_108) b54_3 rfl rfl rfl rfl) ?_
          obtain ⟨fB55, nb55, ot55, z55⟩ := seg_facts hW55 fB54 b54_3 (by omega)
          clear hW55
          have b55_0 := ot55 _ _ (by omega) b54_0
          have b55_1 := ot55 _ _ (by omega) b54_1
          have b55_2 := ot55 _ _ (by omega) b54_2
          have q346' := (q340'.other ot55 q343' (by omega) z55)
          have q347' := (q341'.other ot55 q344' (by omega) z55)
          have q348' := (q342'.other ot55 q345' (by omega) z55)
          have q349' := Nat.lt_of_lt_of_le q343' z55
          have q350' := Nat.lt_of_lt_of_le q344' z55
          have q351' := Nat.lt_of_lt_of_le q345' z55
          refine wpOps_end ?_
          refine inBlock_normal ?_
          refine then_normal ?_
          exact ⟨_, by omega, g54, rfl, sl - 1, rfl, k54_3, k54_4, k54_6, k54_7, k54_8, k54_18, k54_17, k54_79, k54_9, fB55, (by omega), b55_0, b55_1, b55_2, nb55, q346', q347', q348', q349', q350', q351', (by omega), (by omega), (by omega)⟩
        ·
          have hc49' := hc49; try simp only [ba] at hc49'
          have hsu : sl = upI hi 1000 := by
            have h3 : ¬ (0 < sl ∧ hi ≤ 1000 * (sl - 1)) := fun h4 => by rw [decide_eq_true h4.1, decide_eq_true h4.2] at hc49; cases hc49
            unfold upI; omega
          refine wp_exit ?_
          refine then_exit ?_
          refine then_exit ?_
          refine inBlock_at ?_
          refine hK46 _ _ ?_
          refine wp_seq_k fun K50 hK50 => ?_
          refine region_dk 2 [(110, 0), (111, 1), (7, 3)] [[], [], [0], [0, 1, 2]] (rel [is (.agg #[.int .i64 ((Ou 4).1.tab), .slice (some ⟨pa, 0, none⟩) ((Ou 4).1.panels.length) (pc), .int .i64 ((Hs m).1), .slice (some ⟨ta, 0, none⟩) ((Ou 4).1.top.length) (tc), .slice (some ⟨da, 0, none⟩) ((Ou 4).1.bottom.length) (dc), .int .i64 sl, .bool ((Ou 4).1.isOpen)]),
      is (.int .i64 ((if 0 ≤ (Hs 3000).2 then min (Ou 4).2 (Hs 3000).2 else (Ou 4).2)))])
            ⟨is_k, is_k, trivial⟩
            ⟨fun f s W j l p q r a => opv rfl rfl (by simp [go_sem, a.e 8 k53_8, cb b53_3 j 0, cb b53_3 j 1, cb b53_3 j 2, cb b53_3 j 3, cb b53_3 j 4, cb b53_3 j 5, cb b53_3 j 6]) rfl,
    fun f s W j l p q r a => opv rfl rfl (by simp [go_sem, a.e 9 k53_9]) rfl, trivial⟩ ?_
          intro f56 s56 W56 hB56 g56 hg56
          have fB56 := hB56.f fB53
          have z56 := hB56.below.size
          have b56_0 := hB56.b b53_0
          have b56_1 := hB56.b b53_1
          have b56_2 := hB56.b b53_2
          have b56_3 := hB56.b b53_3
          have q352' := (q334'.bw hB56)
          have q353' := (q335'.bw hB56)
          have q354' := (q336'.bw hB56)
          have q355' := (hB56.lt q337')
          have q356' := (hB56.lt q338')
          have q357' := (hB56.lt q339')
          have k56_6 := kt hg56 6 k53_6
          have k56_110 := kt hg56 110 (hB56.is 0)
          have k56_111 := kt hg56 111 (hB56.is 1)
          obtain ⟨W57, hW57⟩ : ∃ W', W' = W56.setRow (s1 2) #[.int .i64 ((Ou 4).1.tab), .slice (some ⟨pa, 0, none⟩) ((Ou 4).1.panels.length) (pc), .int .i64 ((Hs m).1), .slice (some ⟨ta, 0, none⟩) ((Ou 4).1.top.length) (tc), .slice (some ⟨da, 0, none⟩) ((Ou 4).1.bottom.length) (dc), .int .i64 sl, .bool ((Ou 4).1.isOpen)] := ⟨_, rfl⟩
          refine tail_skip (o := _) rfl ⟨rfl, rfl⟩ (run_seg hW57 (fr_ev k56_6) (fr_ev k56_110) b56_2 rfl rfl rfl rfl) ?_
          obtain ⟨fB57, nb57, ot57, z57⟩ := seg_facts hW57 fB56 b56_2 (by omega)
          clear hW57
          have b57_0 := ot57 _ _ (by omega) b56_0
          have b57_1 := ot57 _ _ (by omega) b56_1
          have b57_3 := ot57 _ _ (by omega) b56_3
          have q358' := (q352'.other ot57 q355' (by omega) z57)
          have q359' := (q353'.other ot57 q356' (by omega) z57)
          have q360' := (q354'.other ot57 q357' (by omega) z57)
          have q361' := Nat.lt_of_lt_of_le q355' z57
          have q362' := Nat.lt_of_lt_of_le q356' z57
          have q363' := Nat.lt_of_lt_of_le q357' z57
          refine tail_value (o := _) rfl rfl rfl (v := .int .i64 ((if 0 ≤ (Hs 3000).2 then min (Ou 4).2 (Hs 3000).2 else (Ou 4).2))) (by simp [go_sem, frv 112 k56_111]) ?_
          generalize hg58 : upd g56 7 (.int .i64 ((if 0 ≤ (Hs 3000).2 then min (Ou 4).2 (Hs 3000).2 else (Ou 4).2))) = g58
          have k58_6 := ku hg58 6 k56_6
          have k58_7 := kt hg58 7 (upd_same _ _ _)
          refine wpOps_end ?_
          refine hK50 _ _ ?_
          refine wp_ret ?_
          refine leave_gen (v := .tuple #[.agg #[.int .i64 ((Ou 4).1.tab), .slice (some ⟨pa, 0, none⟩) ((Ou 4).1.panels.length) (pc), .int .i64 ((Hs m).1), .slice (some ⟨ta, 0, none⟩) ((Ou 4).1.top.length) (tc), .slice (some ⟨da, 0, none⟩) ((Ou 4).1.bottom.length) (dc), .int .i64 sl, .bool ((Ou 4).1.isOpen)], .int .i64 ((if 0 ≤ (Hs 3000).2 then min (Ou 4).2 (Hs 3000).2 else (Ou 4).2))]) (.inr rfl) (by simp [results, Tryz.results30, go_sem, frv 112 k58_6, cl nb57 0, cl nb57 1, cl nb57 2, cl nb57 3, cl nb57 4, cl nb57 5, cl nb57 6, frv 112 k58_7]) ?_
          exact ⟨_, rfl, ⟨pa, pc, ta, tc, da, dc, (by rw [← hfinH, ← hsu]; rfl), ⟨q358', by omega, q361'⟩, ⟨q359', by omega, q362'⟩, ⟨q360', by omega, q363'⟩⟩, fB57⟩
end Go.Proofs.YthnediamopehfaaGreat
