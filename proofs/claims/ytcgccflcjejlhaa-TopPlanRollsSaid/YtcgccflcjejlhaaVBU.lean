/- Part of the proof: what the claim leans on. -/
import Derived.Test.YtcgccflcjejlhaaVBT
set_option maxHeartbeats 16000000
set_option maxRecDepth 100000
set_option linter.unusedSimpArgs false
set_option linter.unusedVariables false
namespace Go.Proofs.Ytcgccflcjejlhaa
open Go.RowKit
theorem rolls_b (tb : Int) (ap ta : Option Addr) (np cp nb cb : Nat) (pv : Nat → Nat → Int) (bs : Nat → Int) (p : Tp) (os : Nat → To) (n : Nat) (ys : Nat → List Int × Int) (ht : 0 ≤ tb ∧ tb ≤ 255) (hp : ∀ i j, 0 ≤ pv i j ∧ pv i j ≤ 255) (hgt_ : GetOk p os n ys) (w0 w : World) (hbase_ : Below w0.heap.size w0 w) (hR : RowsB w ap np 2 pv) (hT : ByV w ta nb bs) (b3 : Nat) (aq : Option Addr) (bq oq cq : Nat) (adr : Nat → Option Addr) (cpp : Nat → Nat) (gg_ cgg : Nat) (h3 : w.heap[b3]? = some (.cells #[.int .u8 tb, .slice ap np cp] 57 (0, 0))) (hal : 0 < n → aq = some ⟨bq, oq, none⟩) (hS : SuR w bq oq n ys adr cpp) (hG : Ii w (some ⟨gg_, 0, none⟩) 3 cgg (gotK ys n)) (g : Nat → Value) (k_2 : g 2 = .slice ta nb cb) (k_3 : g 3 = .pointer (some ⟨b3, 0, none⟩)) (k_10 : g 10 = .slice aq n cq) (k_12 : g 12 = .slice (some ⟨gg_, 0, none⟩) 3 cgg) (k_15 : g 15 = .int .i64 0) :
  (tailC 6 (bodyC Try.f4)).wp Try.prog (bodyPost Try.prog Try.f4 (fun e w' => e = .returned (.bool true) ∧ Below w0.heap.size w0 w')) (fr 426 g) w := by
 have hn3 := hgt_.n3
 have fB0 : Below w.heap.size w w := Below.refl _ _
 have lt_b3 := ltb h3
 refine wp_seq_k fun K1 hK1 => ?_
 refine rz 5 [(125, 0), (126, 1), (18, 2), (16, 3), (17, 4)] [[], [], [], [0, 2], [], [0, 1, 2, 3, 4]] (rel [row 0 0 #[] 76, is (.agg #[.int .i64 0, .int .i64 0, .int .i64 0]), bx 2 #[.int .i64 0, .int .i64 0, .int .i64 0] 72, isS fun s => .slice (some ⟨(s 0), 0, none⟩) (0) (0), iI 0])
  ⟨row_k, is_k, bx_k, isS_k fun s s' e => by rw [e 0 (by simp)], is_k, trivial⟩
  ⟨fun f s W m q r x y l => opr rfl rfl (by simp [go_sem]),
  fun f s W m q r x y l => opv rfl rfl (by simp [go_sem]) rfl,
  fun f s W m q r x y l => opb rfl rfl (by simp [go_sem]),
  fun f s W m q r x y l => opv rfl rfl (by simp [go_sem, l.e 125 (q 0 rfl).1, upd]) rfl,
  fun f s W m q r x y l => opz, trivial⟩ ?_
 intro f1 s1 W1 hB1 g1 hg1 z1
 have fB1 := hB1.f fB0
 have b1_0 := hB1.b h3
 obtain ⟨r1_0, br1_0⟩ := hB1.is 0
 have lr1_0 := hB1.lr 0 br1_0
 obtain ⟨r1_2, br1_2⟩ := hB1.is 2
 have lr1_2 := hB1.lr 2 br1_2
 have ne1_0_2 := hB1.nb 0 2
 have k1_126 := kt hg1 126 (hB1.is 1)
 have k1_18 := kt hg1 18 r1_2
 have k1_16 := kt hg1 16 (hB1.is 3)
 obtain ⟨W2, hW2⟩ : ∃ W', W' = W1.setRow (s1 2) #[.int .i64 0, .int .i64 0, .int .i64 0] := ⟨_, rfl⟩
 refine tsk (o := _) rfl ⟨rfl, rfl⟩ (run_seg hW2 (fr_ev k1_18) (fr_ev k1_126) br1_2 rfl rfl rfl rfl) ?_
 obtain ⟨fB2, nb2, ot2, z2⟩ := sgf hW2 fB1 br1_2 (by omega)
 clear hW2
 have b2_0 := ot2 _ _ (by omega) b1_0
 have b2_1 := ot2 _ _ (by omega) br1_0
 refine wpe ?_
 refine hK1 _ _ ?_
 obtain ⟨b1, hb1⟩ : ∃ b, (s1 0) = b := ⟨_, rfl⟩
 have or0 : OwnN 76 2 w.heap.size 0 [] (some ⟨b1, 0, none⟩) 0 W2 := .inr ⟨b1, rfl, ownR_empty (hb1 ▸ b2_1) (by rw [← hb1]; omega)⟩
 have k16_ : g1 16 = .slice (some ⟨b1, 0, none⟩) 0 0 := hb1 ▸ k1_16
 refine wp_seq_k fun K2 hK2 => ?_
 refine rw_ 1 [(19, 0)] [[]] (rel [iI 0])
  ⟨fun f s W m q r x y l => opz, trivial⟩ ?_
 intro f3 s3 W3 hB3 g3 hg3 z3
 have fB3 := hB3.f fB2
 have b3_0 := hB3.b b2_0
 have b3_1 := hB3.b nb2
 have q31' := (or0.below hB3.below)
 have k3_2 := kt hg3 2 (kt hg1 2 k_2)
 have k3_3 := kt hg3 3 (kt hg1 3 k_3)
 have k3_10 := kt hg3 10 (kt hg1 10 k_10)
 have k3_12 := kt hg3 12 (kt hg1 12 k_12)
 have k3_15 := kt hg3 15 (kt hg1 15 k_15)
 have k3_18 := kt hg3 18 k1_18
 have k3_16 := kt hg3 16 k16_
 have k3_17 := kt hg3 17 (kt hg1 17 (hB1.is 4))
 have k3_19 := kt hg3 19 (hB3.is 0)
 refine wp_block ?_
 refine wp_loop_n (fun m_ a_ W_ => ∃ g_ : Nat → Value, a_ = fr 426 g_ ∧ (∃ j : Nat, ∃ gq : Nat, ∃ cq2 : Nat, m_ = n - j ∧ g_ 2 = .slice ta nb cb ∧ g_ 3 = .pointer (some ⟨b3, 0, none⟩) ∧ g_ 10 = .slice aq n cq ∧ g_ 12 = .slice (some ⟨gg_, 0, none⟩) 3 cgg ∧ g_ 15 = .int .i64 0 ∧ g_ 18 = .pointer (some ⟨(s1 2), 0, none⟩) ∧ g_ 19 = .int .i64 ((j : Int)) ∧ g_ 16 = .slice (some ⟨gq, 0, none⟩) j cq2 ∧ g_ 17 = .int .i64 ((bgF (lgY ys) j)) ∧ Below w.heap.size w W_ ∧ W3.heap.size ≤ W_.heap.size ∧ W_.heap[b3]? = some (.cells #[.int .u8 tb, .slice ap np cp] 57 (0, 0)) ∧ W_.heap[(s1 2)]? = some (.cells #[.int .i64 ((elT (gotK ys j) 0)), .int .i64 ((elT (gotK ys j) 1)), .int .i64 ((elT (gotK ys j) 2))] 72 (0, 0)) ∧ OwnN 76 2 w.heap.size j (rowC (rdC (lgY ys)) j) (some ⟨gq, 0, none⟩) cq2 W_ ∧ (j ≤ n))) ⟨_, g3, rfl, 0, b1, 0, rfl, k3_2, k3_3, k3_10, k3_12, k3_15, k3_18, k3_19.trans (by rfl), k3_16.trans (by rfl), k3_17.trans (by rfl), fB3, Nat.le_refl _, b3_0, b3_1, q31', (by omega)⟩ ?_
 rintro _ _ W_32 ⟨g_32, rfl, j, gq, cq2, rfl, k_32_2, k_32_3, k_32_10, k_32_12, k_32_15, k_32_18, k_32_19, k_32_16, k_32_17, fB_32, z_32, b_32_0, m_32_0, q33', lk0⟩
 refine wp_seq_k fun K4 hK4 => ?_
 refine rw_ 8 [(127, 0), (128, 1), (129, 2), (130, 3), (131, 4), (132, 5), (133, 6), (134, 7)] [[], [], [1], [0, 2], [3], [4], [4, 5], [4, 6]] (rel [iI ((j : Int)), is (.slice aq n cq), iI ((n : Int)), iB (decide ((j : Int) < (n : Int))), iB (decide ((j : Int) < (n : Int))), gd (decide ((j : Int) < (n : Int))) true (iI ((j : Int))), gd (decide ((j : Int) < (n : Int))) true (iB (decide ((j : Int) < 3))), iB ((decide ((j : Int) < (n : Int))) && (decide ((j : Int) < 3)))])
  ⟨fun f s W m q r x y l => opm (l.v 19 k_32_19),
  fun f s W m q r x y l => opm (l.v 10 k_32_10),
  fun f s W m q r x y l => opv rfl rfl (by simp [go_sem, l.e 128 (q 1 rfl)]) rfl,
  fun f s W m q r x y l => opv rfl rfl (by simp [go_sem, l.e 127 (q 0 rfl), l.e 129 (q 2 rfl)]) rfl,
  fun f s W m q r x y l => opm (l.v 130 (q 3 rfl)),
  fun f s W m q r x y l => gdo rfl rfl (l.says (d := 131) rfl rfl (q 4 rfl)) fun hgd0 => gv (by simp [go_sem, l.e 19 k_32_19]) rfl,
  fun f s W m q r x y l => gdo rfl rfl (l.says (d := 131) rfl rfl (q 4 rfl)) fun hgd0 => gv (by simp [go_sem, l.e 132 ((q 5 rfl).1 hgd0)]) rfl,
  fun f s W m q r x y l => opk (c := decide ((j : Int) < (n : Int))) rfl rfl (fun hpk => by first | (simp [go_sem, hpk, l.e 131 (q 4 rfl)]; done) | (have hpk' := hpk; simp at hpk'; simp [go_sem, hpk', hpk, l.e 131 (q 4 rfl)]; done) | (have hpk' := of_decide_eq_false hpk; simp only [Int.ofNat_lt] at hpk'; simp [go_sem, hpk', hpk, l.e 131 (q 4 rfl)])) (fun hpk => by first | (simp [go_sem, hpk, l.e 131 (q 4 rfl), l.e 133 ((q 6 rfl).1 hpk)]; done) | (have hpk' := hpk; simp at hpk'; simp [go_sem, hpk', hpk, l.e 131 (q 4 rfl), l.e 133 ((q 6 rfl).1 hpk)]; done) | (have hpk' := of_decide_eq_false hpk; simp only [Int.ofNat_lt] at hpk'; simp [go_sem, hpk', hpk, l.e 131 (q 4 rfl), l.e 133 ((q 6 rfl).1 hpk)])), trivial⟩ ?_
 intro f4 s4 W4 hB4 g4 hg4 z4
 have fB4 := hB4.f fB_32
 have b4_0 := hB4.b b_32_0
 have b4_1 := hB4.b m_32_0
 have q34' := (q33'.below hB4.below)
 have k4_2 := kt hg4 2 k_32_2
 have k4_3 := kt hg4 3 k_32_3
 have k4_10 := kt hg4 10 k_32_10
 have k4_12 := kt hg4 12 k_32_12
 have k4_15 := kt hg4 15 k_32_15
 have k4_18 := kt hg4 18 k_32_18
 have k4_19 := kt hg4 19 k_32_19
 have k4_16 := kt hg4 16 k_32_16
 have k4_17 := kt hg4 17 k_32_17
 have k4_134 := kt hg4 134 (hB4.is 7)
 refine wp_cond_split (t := (decide ((j : Int) < (n : Int))) && (decide ((j : Int) < 3))) ((fr_eval rfl).trans k4_134) (fun hc6 => ?_) (fun hc6 => ?_)
 ·
  have hc6' := hc6; try simp only [ba] at hc6'
  have hjn : j < n := by omega
  have hrj_ := hgt_.rn j hjn
  have hlj_ := hgt_.ln j hjn
  obtain ⟨bwj, owj, hwj⟩ := iq_addr (hS.2 j hjn).2.2 (by rw [hgt_.ln j hjn]; decide)
  have hbg_ := bgF_bd (lgY_in hgt_) j (by omega)
  have hmm0_ := tr_mul (getD_bd (hgt_.bd j hjn) (by decide) 0) (show 0 ≤ (ys j).2 ∧ (ys j).2 ≤ 30 by omega)
  have hmm1_ := tr_mul (getD_bd (hgt_.bd j hjn) (by decide) 1) (show 0 ≤ (ys j).2 ∧ (ys j).2 ≤ 30 by omega)
  have hmm2_ := tr_mul (getD_bd (hgt_.bd j hjn) (by decide) 2) (show 0 ≤ (ys j).2 ∧ (ys j).2 ≤ 30 by omega)
  have hgb0_ := gotK_bd hgt_ j (by omega) 0
  have hgb1_ := gotK_bd hgt_ j (by omega) 1
  have hgb2_ := gotK_bd hgt_ j (by omega) 2
  have dq1 : (decide ((ys j).2 < 1)) = false := decide_eq_false (by omega)
  have dq2 : (decide (30 < (ys j).2)) = false := decide_eq_false (by omega)
  have dq3 : (((ys j).1.length : Int) != 3) = false := by rw [hlj_]; rfl
  refine wp_skip ?_
  refine hK4 _ _ ?_
  refine wp_seq_k fun K7 hK7 => ?_
  refine wp_block ?_
  refine wp_seq_k fun K8 hK8 => ?_
  refine rw_ 23 [(137, 0), (138, 1), (139, 2), (140, 3), (141, 4), (142, 5), (143, 6), (144, 7), (145, 8), (146, 9), (147, 10), (148, 11), (149, 12), (150, 13), (151, 14), (152, 15), (153, 16), (154, 17), (155, 18), (156, 19), (157, 20), (158, 21), (159, 22)] [[], [], [0, 1], [2], [3], [4], [5], [6], [6], [6, 7, 8], [6, 9], [6, 10], [6, 11], [6, 12], [13], [14], [14], [14, 15, 16], [14, 17], [14, 18], [14, 19], [14, 20], [14, 21]] (rel [is (.slice aq n cq), iI ((j : Int)), is (.pointer (some ⟨bq, oq + j * 2, none⟩)), is (.pointer (some ⟨bq, oq + j * 2 + 1, none⟩)), iI ((ys j).2), iB false, iB false, is (.slice aq n cq), iI ((j : Int)), is (.pointer (some ⟨bq, oq + j * 2, none⟩)), is (.pointer (some ⟨bq, oq + j * 2 + 1, none⟩)), iI ((ys j).2), iB false, iB false, iB false, is (.slice aq n cq), iI ((j : Int)), is (.pointer (some ⟨bq, oq + j * 2, none⟩)), is (.pointer (some ⟨bq, oq + j * 2, none⟩)), is (.slice ((adr j)) ((ys j).1.length) ((cpp j))), iI (((ys j).1.length : Int)), iB false, iB false])
   ⟨fun f s W m q r x y l => opm (l.v 10 k4_10),
  fun f s W m q r x y l => opm (l.v 19 k4_19),
  fun f s W m q r x y l => by have hab := hal (by omega); have li_ := Nat.not_le.2 hjn; have li2_ : (j : Int) < (n : Int) := (by omega); exact opv rfl rfl (by simp [go_sem, l.e 137 (q 0 rfl), l.e 138 (q 1 rfl), hab, li_, li2_]) rfl,
  fun f s W m q r x y l => opv rfl rfl (by simp [go_sem, l.e 139 (q 2 rfl)]) rfl,
  fun f s W m q r x y l => by have z := bwt fB4 m; have cu_ := (hS.below z).2 j hjn; have cu0_ := cu_.1; have cu1_ := cu_.2.1; exact opv rfl rfl (by simp [go_sem, l.e 140 (q 3 rfl), cu0_, cu1_]) rfl,
  fun f s W m q r x y l => opv rfl rfl (by simp [go_sem, l.e 141 (q 4 rfl), dq1]) rfl,
  fun f s W m q r x y l => opm (l.v 142 (q 5 rfl)),
  fun f s W m q r x y l => osure rfl rfl (l.says (d := 143) rfl rfl (q 6 rfl)) (gv (by simp [go_sem, l.e 10 k4_10]) rfl),
  fun f s W m q r x y l => osure rfl rfl (l.says (d := 143) rfl rfl (q 6 rfl)) (gv (by simp [go_sem, l.e 19 k4_19]) rfl),
  fun f s W m q r x y l => osure rfl rfl (l.says (d := 143) rfl rfl (q 6 rfl)) (by have hab := hal (by omega); have li_ := Nat.not_le.2 hjn; have li2_ : (j : Int) < (n : Int) := (by omega); exact gv (by simp [go_sem, l.e 144 (q 7 rfl), l.e 145 (q 8 rfl), hab, li_, li2_]) rfl),
  fun f s W m q r x y l => osure rfl rfl (l.says (d := 143) rfl rfl (q 6 rfl)) (gv (by simp [go_sem, l.e 146 (q 9 rfl)]) rfl),
  fun f s W m q r x y l => osure rfl rfl (l.says (d := 143) rfl rfl (q 6 rfl)) (by have z := bwt fB4 m; have cu_ := (hS.below z).2 j hjn; have cu0_ := cu_.1; have cu1_ := cu_.2.1; exact gv (by simp [go_sem, l.e 147 (q 10 rfl), cu0_, cu1_]) rfl),
  fun f s W m q r x y l => osure rfl rfl (l.says (d := 143) rfl rfl (q 6 rfl)) (gv (by simp [go_sem, l.e 148 (q 11 rfl), dq2]) rfl),
  fun f s W m q r x y l => opk (c := false) rfl rfl (fun _ => by simp [go_sem, l.e 143 (q 6 rfl), l.e 149 (q 12 rfl)]) (fun h => absurd h (by decide)),
  fun f s W m q r x y l => opm (l.v 150 (q 13 rfl)),
  fun f s W m q r x y l => osure rfl rfl (l.says (d := 151) rfl rfl (q 14 rfl)) (gv (by simp [go_sem, l.e 10 k4_10]) rfl),
  fun f s W m q r x y l => osure rfl rfl (l.says (d := 151) rfl rfl (q 14 rfl)) (gv (by simp [go_sem, l.e 19 k4_19]) rfl),
  fun f s W m q r x y l => osure rfl rfl (l.says (d := 151) rfl rfl (q 14 rfl)) (by have hab := hal (by omega); have li_ := Nat.not_le.2 hjn; have li2_ : (j : Int) < (n : Int) := (by omega); exact gv (by simp [go_sem, l.e 152 (q 15 rfl), l.e 153 (q 16 rfl), hab, li_, li2_]) rfl),
  fun f s W m q r x y l => osure rfl rfl (l.says (d := 151) rfl rfl (q 14 rfl)) (gv (by simp [go_sem, l.e 154 (q 17 rfl)]) rfl),
  fun f s W m q r x y l => osure rfl rfl (l.says (d := 151) rfl rfl (q 14 rfl)) (by have z := bwt fB4 m; have cu_ := (hS.below z).2 j hjn; have cu0_ := cu_.1; have cu1_ := cu_.2.1; exact gv (by simp [go_sem, l.e 155 (q 18 rfl), cu0_, cu1_]) rfl),
  fun f s W m q r x y l => osure rfl rfl (l.says (d := 151) rfl rfl (q 14 rfl)) (gv (by simp [go_sem, l.e 156 (q 19 rfl)]) rfl),
  fun f s W m q r x y l => osure rfl rfl (l.says (d := 151) rfl rfl (q 14 rfl)) (gv (by simp [go_sem, l.e 157 (q 20 rfl), dq3]) rfl),
  fun f s W m q r x y l => opk (c := false) rfl rfl (fun _ => by simp [go_sem, l.e 151 (q 14 rfl), l.e 158 (q 21 rfl)]) (fun h => absurd h (by decide)), trivial⟩ ?_
  intro f5 s5 W5 hB5 g5 hg5 z5
  have fB5 := hB5.f fB4
  have b5_0 := hB5.b b4_0
  have b5_1 := hB5.b b4_1
  have q35' := (q34'.below hB5.below)
  have k5_10 := kt hg5 10 k4_10
  have k5_19 := kt hg5 19 k4_19
  have k5_16 := kt hg5 16 k4_16
  have k5_17 := kt hg5 17 k4_17
  have k5_159 := kt hg5 159 (hB5.is 22)
  refine wp_cond_false ((fr_eval rfl).trans k5_159) ?_
  refine wp_skip ?_
  refine hK8 _ _ ?_
  refine wp_seq_k fun K11 hK11 => ?_
  have ho6_ := OwnN.row q35'
  have hgl6 : w.heap.size ≤ gq ∧ gq < W5.heap.size := ⟨ho6_.1, ho6_.2.1⟩
  have hbl6 : ∀ a b, Below a.heap.size a b → (LeQ1 76 2 w.heap.size (j + 1) (rowC (rdC (lgY ys)) (j + 1)) gq cq2) a b := LeX.of_below stayQ1
  have hub6 : ∀ a b, Below a.heap.size a b → (OwnR 76 2 w.heap.size j (rowC (rdC (lgY ys)) j) gq cq2) a → (OwnR 76 2 w.heap.size j (rowC (rdC (lgY ys)) j) gq cq2) b := fun a b h h0 => OwnR.below h0 h
  have hlo6 : ∀ k, k = gq → w.heap.size ≤ k := fun k e => by omega
  have nx6_0 : ¬ (b3 = gq) := fun e => ownN_ne q35' b5_0 (by decide) _ rfl e.symm
  have nx6_1 : ¬ ((s1 2) = gq) := fun e => ownN_ne q35' b5_1 (by decide) _ rfl e.symm
  refine region_doU (OwnR 76 2 w.heap.size j (rowC (rdC (lgY ys)) j) gq cq2) 9 (LeQ1 76 2 w.heap.size (j + 1) (rowC (rdC (lgY ys)) (j + 1)) gq cq2) ho6_ (fun a h => hub6 _ _ (Below.refl _ _).drew h) LeX.refl (LeX.drew stayQ1) LeX.trans (fun _ _ h => h.size) 19 [(160, 0), (161, 1), (162, 2), (163, 3), (164, 4), (165, 5), (166, 6), (167, 7), (168, 8), (169, 9), (170, 10), (171, 11), (172, 12), (173, 13), (174, 14), (175, 15), (176, 16), (177, 17), (16, 18), (17, 19)] [[], [], [], [1, 2], [1, 2, 3], [1, 2, 3, 4], [1, 2, 3, 4, 5], [1, 2, 3, 4, 5, 6], [1, 2, 3, 4, 5, 6, 7], [0, 1, 2, 3, 4, 5, 6, 7, 8], [], [], [], [11, 12], [11, 12, 13], [11, 12, 13, 14], [11, 12, 13, 14, 15], [10, 11, 12, 13, 14, 15, 16], [0, 1, 2, 3, 4, 5, 6, 7, 8, 9], [0, 1, 2, 3, 4, 5, 6, 7, 8, 9, 10, 11, 12, 13, 14, 15, 16, 17, 18]] (rel [is (.slice (some ⟨gq, 0, none⟩) j cq2),
   is (.slice aq n cq),
   is (.int .i64 ((j : Int))),
   is (.pointer (some ⟨bq, oq + j * 2, none⟩)),
   is (.pointer (some ⟨bq, oq + j * 2 + 1, none⟩)),
   is (.int .i64 ((ys j).2)),
   is (.int .i64 (10 * ((ys j).2))),
   is (.agg #[.int .i64 (10 * ((ys j).2)), .bool true]),
   rowX (fun k => k = gq) 8 1 #[.int .i64 (10 * ((ys j).2)), .bool true] 76,
   rowQ 76 2 w.heap.size (j + 1) (rowC (rdC (lgY ys)) (j + 1)) gq cq2 W5.heap.size,
   is (.int .i64 ((bgF (lgY ys) j))),
   is (.slice aq n cq),
   is (.int .i64 ((j : Int))),
   is (.pointer (some ⟨bq, oq + j * 2, none⟩)),
   is (.pointer (some ⟨bq, oq + j * 2 + 1, none⟩)),
   is (.int .i64 ((ys j).2)),
   is (.int .i64 (10 * ((ys j).2))),
   is (.int .i64 ((bgF (lgY ys) j) + (10 * ((ys j).2)))),
   rowQ 76 2 w.heap.size (j + 1) (rowC (rdC (lgY ys)) (j + 1)) gq cq2 W5.heap.size]) (by kernel_rfl) (by kernel_rfl) (by kernel_rfl) (by kernel_rfl)
   ⟨is_kl, is_kl, is_kl, is_kl, is_kl, is_kl, is_kl, is_kl, rowX_k, rowQ_k hgl6.2, is_kl, is_kl, is_kl, is_kl, is_kl, is_kl, is_kl, is_kl, rowQ_k hgl6.2, trivial⟩
   ⟨fun f s W m hU q r x y l => OpDo.u hbl6 hub6 (opv rfl rfl (by simp [go_sem, l.e 16 ((x 18 16 rfl rfl).trans k5_16)]) rfl),
  fun f s W m hU q r x y l => OpDo.u hbl6 hub6 (opv rfl rfl (by simp [go_sem, l.e 10 k5_10]) rfl),
  fun f s W m hU q r x y l => OpDo.u hbl6 hub6 (opv rfl rfl (by simp [go_sem, l.e 19 k5_19]) rfl),
  fun f s W m hU q r x y l => OpDo.u hbl6 hub6 (by have hab := hal (by omega); have li_ := Nat.not_le.2 hjn; have li2_ : (j : Int) < (n : Int) := (by omega); exact opv rfl rfl (by simp [go_sem, l.e 161 (q 1 rfl), l.e 162 (q 2 rfl), hab, li_, li2_]) rfl),
  fun f s W m hU q r x y l => OpDo.u hbl6 hub6 (opv rfl rfl (by simp [go_sem, l.e 163 (q 3 rfl)]) rfl),
  fun f s W m hU q r x y l => OpDo.u hbl6 hub6 (by have z := (fB5).trans (m.below (fB5).size hlo6); have cu_ := (hS.below z).2 j hjn; have cu0_ := cu_.1; have cu1_ := cu_.2.1; exact opv rfl rfl (by simp [go_sem, l.e 164 (q 4 rfl), cu0_, cu1_]) rfl),
  fun f s W m hU q r x y l => OpDo.u hbl6 hub6 (opv rfl rfl (by simp [go_sem, l.e 165 (q 5 rfl), IntWalk.i64_in (10 * ((ys j).2)) (by omega)]) rfl),
  fun f s W m hU q r x y l => OpDo.u hbl6 hub6 (opv rfl rfl (by simp [go_sem, l.e 166 (q 6 rfl)]) rfl),
  fun f s W m hU q r x y l => OpDo.rowu stayQ1 hub6 (fun e => by have := m.size; omega) (opr rfl rfl (by simp [go_sem, l.e 167 (q 7 rfl)])),
  fun f s W m hU q r x y l => by obtain ⟨v_, W_, r_, l_, q_⟩ := app_q (w := w) (W := W) 71 71 76 2 16 _ (by kernel_rfl) infoRd rfl (rowC (rdC (lgY ys)) (j + 1)) (j + 1) (k := 1) (c' := 1) [.int .i64 (10 * ((ys j).2)), .bool true] ((fB5).trans (m.below (fB5).size hlo6)) (hU rfl) rfl rfl rfl rfl (cells_at (q 8 rfl).2.2) (by omega) m.size; exact OpDoL.u rfl (opDoL_value rfl rfl (run_appendOp (l.v 160 (q 0 rfl)) (l.v 168 (q 8 rfl).2.1) r_) l_ (q_ s)),
  fun f s W m hU q r x y l => OpDo.u hbl6 hub6 (opv rfl rfl (by simp [go_sem, l.e 17 ((x 19 17 rfl rfl).trans k5_17)]) rfl),
  fun f s W m hU q r x y l => OpDo.u hbl6 hub6 (opv rfl rfl (by simp [go_sem, l.e 10 k5_10]) rfl),
  fun f s W m hU q r x y l => OpDo.u hbl6 hub6 (opv rfl rfl (by simp [go_sem, l.e 19 k5_19]) rfl),
  fun f s W m hU q r x y l => OpDo.u hbl6 hub6 (by have hab := hal (by omega); have li_ := Nat.not_le.2 hjn; have li2_ : (j : Int) < (n : Int) := (by omega); exact opv rfl rfl (by simp [go_sem, l.e 171 (q 11 rfl), l.e 172 (q 12 rfl), hab, li_, li2_]) rfl),
  fun f s W m hU q r x y l => OpDo.u hbl6 hub6 (opv rfl rfl (by simp [go_sem, l.e 173 (q 13 rfl)]) rfl),
  fun f s W m hU q r x y l => OpDo.u hbl6 hub6 (by have z := (fB5).trans (m.below (fB5).size hlo6); have cu_ := (hS.below z).2 j hjn; have cu0_ := cu_.1; have cu1_ := cu_.2.1; exact opv rfl rfl (by simp [go_sem, l.e 174 (q 14 rfl), cu0_, cu1_]) rfl),
  fun f s W m hU q r x y l => OpDo.u hbl6 hub6 (opv rfl rfl (by simp [go_sem, l.e 175 (q 15 rfl), IntWalk.i64_in (10 * ((ys j).2)) (by omega)]) rfl),
  fun f s W m hU q r x y l => OpDo.u hbl6 hub6 (opv rfl rfl (by simp [go_sem, l.e 170 (q 10 rfl), l.e 176 (q 16 rfl), IntWalk.i64_in ((bgF (lgY ys) j) + (10 * ((ys j).2))) (by omega)]) rfl),
  fun f s W m hU q r x y l => by obtain ⟨g_, c_, e_, h_⟩ := q 9 rfl; exact OpDo.u hbl6 hub6 (opDo_value (v := .slice (some ⟨g_, 0, none⟩) (j + 1) c_) rfl rfl (by simp [go_sem, l.e 169 e_]) (Below.refl _ _) ⟨g_, c_, rfl, h_⟩), trivial⟩ ?_
  intro f6 s6 W6 hB6
  have fB6 : Below w.heap.size w W6 := (fB5).trans (hB6.le.below (fB5).size hlo6)
  have z6 : W5.heap.size ≤ W6.heap.size := hB6.le.size
  obtain ⟨ga6, ca6, ea6, oa6, -⟩ := hB6.is 18
  have b6_0 := blk_x b5_0 hB6.le nx6_0
  have b6_1 := blk_x b5_1 hB6.le nx6_1
  have on6 : OwnN 76 2 w.heap.size (j + 1) (rowC (rdC (lgY ys)) (j + 1)) (some ⟨ga6, 0, none⟩) ca6 W6 := .inr ⟨_, rfl, oa6⟩
  generalize hg6 : ov [(160, 0), (161, 1), (162, 2), (163, 3), (164, 4), (165, 5), (166, 6), (167, 7), (168, 8), (169, 9), (170, 10), (171, 11), (172, 12), (173, 13), (174, 14), (175, 15), (176, 16), (177, 17), (16, 18), (17, 19)] f6 g5 = g6
  have k6_177 := kt hg6 177 (hB6.is 17)
  refine tail_value (o := _) rfl rfl rfl (v := .int .i64 ((bgF (lgY ys) j) + (10 * ((ys j).2)))) (by simp [go_sem, frv 426 k6_177]) ?_
  generalize hg7 : upd g6 17 (.int .i64 ((bgF (lgY ys) j) + (10 * ((ys j).2)))) = g7
  refine wpe ?_
  refine hK11 _ _ ?_
  refine rw_ 1 [(20, 0)] [[]] (rel [iI 0])
   ⟨fun f s W m q r x y l => opz, trivial⟩ ?_
  intro f8 s8 W8 hB8 g8 hg8 z8
  have q36' := (on6.below hB8.below)
  have k8_20 := kt hg8 20 (hB8.is 0)
  refine wp_block ?_
  refine wp_loop_rounds 4 ?_
  rw [rounds_succ]
  refine wp_seq_k fun K13 hK13 => ?_
  refine rw_ 2 [(178, 0), (179, 1)] [[], [0]] (rel [iI 0, iB true])
   ⟨fun f s W m q r x y l => opm (l.v 20 k8_20),
  fun f s W m q r x y l => opv rfl rfl (by simp [go_sem, l.e 178 (q 0 rfl)]) rfl, trivial⟩ ?_
  intro f9 s9 W9 hB9 g9 hg9 z9
  have fB9 := hB9.f (hB8.f fB6)
  have b9_1 := hB9.b (hB8.b b6_1)
  have q37' := (q36'.below hB9.below)
  have k9_10 := kt hg9 10 (kt hg8 10 (ku hg7 10 (kt hg6 10 k5_10)))
  have k9_18 := kt hg9 18 (kt hg8 18 (ku hg7 18 (kt hg6 18 (kt hg5 18 k4_18))))
  have k9_19 := kt hg9 19 (kt hg8 19 (ku hg7 19 (kt hg6 19 k5_19)))
  have k9_20 := kt hg9 20 k8_20
  have k9_179 := kt hg9 179 (hB9.is 1)
  refine wp_cond_true ((fr_eval rfl).trans k9_179) ?_
  refine wp_skip ?_
  refine hK13 _ _ ?_
  refine wp_seq_k fun K16 hK16 => ?_
  refine wp_block ?_
  refine ry 19 [(182, 0), (183, 1), (184, 2), (185, 3), (186, 4), (187, 5), (188, 6), (189, 7), (190, 8), (191, 9), (192, 10), (193, 11), (194, 12), (195, 13), (196, 14), (197, 15), (198, 16), (199, 17), (200, 18)] [[], [0], [1], [], [], [3, 4], [5], [6], [], [7, 8], [9], [], [], [11, 12], [13], [14], [10, 15], [2, 16], [0], [0, 1, 2, 3, 4, 5, 6, 7, 8, 9, 10, 11, 12, 13, 14, 15, 16, 17, 18]] (rel [iI 0, is (.pointer (some ⟨(s1 2), 0, none⟩)), iI ((elT (gotK ys j) 0)), is (.slice aq n cq), iI ((j : Int)), is (.pointer (some ⟨bq, oq + j * 2, none⟩)), is (.pointer (some ⟨bq, oq + j * 2, none⟩)), is (.slice ((adr j)) ((ys j).1.length) ((cpp j))), iI 0, is (.pointer (some ⟨bwj, owj, none⟩)), iI ((elT (ys j).1 0)), is (.slice aq n cq), iI ((j : Int)), is (.pointer (some ⟨bq, oq + j * 2, none⟩)), is (.pointer (some ⟨bq, oq + j * 2 + 1, none⟩)), iI ((ys j).2), iI ((elT (ys j).1 0) * ((ys j).2)), iI ((elT (gotK ys j) 0) + ((elT (ys j).1 0) * ((ys j).2))), is (.pointer (some ⟨(s1 2), 0, none⟩))])
   ⟨fun f s W m q r x y l => opm (l.v 20 k9_20),
  fun f s W m q r x y l => opv rfl rfl (by simp [go_sem, l.e 18 k9_18, l.e 182 (q 0 rfl)]) rfl,
  fun f s W m q r x y l => opv rfl rfl (by simp [go_sem, l.e 183 (q 1 rfl), cl (bwb b9_1 m) 0]) rfl,
  fun f s W m q r x y l => opm (l.v 10 k9_10),
  fun f s W m q r x y l => opm (l.v 19 k9_19),
  fun f s W m q r x y l => by have hab := hal (by omega); have li_ := Nat.not_le.2 hjn; have li2_ : (j : Int) < (n : Int) := (by omega); exact opv rfl rfl (by simp [go_sem, l.e 185 (q 3 rfl), l.e 186 (q 4 rfl), hab, li_, li2_]) rfl,
  fun f s W m q r x y l => opv rfl rfl (by simp [go_sem, l.e 187 (q 5 rfl)]) rfl,
  fun f s W m q r x y l => by have z := bwt fB9 m; have cu_ := (hS.below z).2 j hjn; have cu0_ := cu_.1; have cu1_ := cu_.2.1; exact opv rfl rfl (by simp [go_sem, l.e 188 (q 6 rfl), cu0_, cu1_]) rfl,
  fun f s W m q r x y l => opm (l.v 20 k9_20),
  fun f s W m q r x y l => by have hab := hwj; have li_ := Nat.not_le.2 (show 0 < (ys j).1.length by rw [hlj_]; decide); have li2_ : (0 : Int) < ((ys j).1.length : Int) := (by rw [hlj_]; decide); exact opv rfl rfl (by simp [go_sem, l.e 189 (q 7 rfl), l.e 190 (q 8 rfl), hab, li_, li2_]) rfl,
  fun f s W m q r x y l => by have z := bwt fB9 m; have cu_ := iq_atn ((hS.below z).2 j hjn).2.2 hwj (show 0 < (ys j).1.length by rw [hlj_]; decide); rw [Nat.add_zero] at cu_; exact opv rfl rfl (by simp [go_sem, l.e 191 (q 9 rfl), cu_]) rfl,
  fun f s W m q r x y l => opm (l.v 10 k9_10),
  fun f s W m q r x y l => opm (l.v 19 k9_19),
  fun f s W m q r x y l => by have hab := hal (by omega); have li_ := Nat.not_le.2 hjn; have li2_ : (j : Int) < (n : Int) := (by omega); exact opv rfl rfl (by simp [go_sem, l.e 193 (q 11 rfl), l.e 194 (q 12 rfl), hab, li_, li2_]) rfl,
  fun f s W m q r x y l => opv rfl rfl (by simp [go_sem, l.e 195 (q 13 rfl)]) rfl,
  fun f s W m q r x y l => by have z := bwt fB9 m; have cu_ := (hS.below z).2 j hjn; have cu0_ := cu_.1; have cu1_ := cu_.2.1; exact opv rfl rfl (by simp [go_sem, l.e 196 (q 14 rfl), cu0_, cu1_]) rfl,
  fun f s W m q r x y l => opv rfl rfl (by simp [go_sem, l.e 192 (q 10 rfl), l.e 197 (q 15 rfl), IntWalk.i64_in ((elT (ys j).1 0) * ((ys j).2)) (by omega)]) rfl,
  fun f s W m q r x y l => opv rfl rfl (by simp [go_sem, l.e 184 (q 2 rfl), l.e 198 (q 16 rfl), IntWalk.i64_in ((elT (gotK ys j) 0) + ((elT (ys j).1 0) * ((ys j).2))) (by omega)]) rfl,
  fun f s W m q r x y l => opv rfl rfl (by simp [go_sem, l.e 18 k9_18, l.e 182 (q 0 rfl)]) rfl, trivial⟩ ?_
  intro f10 s10 W10 hB10 g10 hg10 z10
  have fB10 := hB10.f fB9
  have b10_0 := hB10.b (hB9.b (hB8.b b6_0))
  have b10_1 := hB10.b b9_1
  have q38' := (q37'.below hB10.below)
  have k10_20 := kt hg10 20 k9_20
  have k10_199 := kt hg10 199 (hB10.is 17)
  have k10_200 := kt hg10 200 (hB10.is 18)
  obtain ⟨W11, hW11⟩ : ∃ W', W' = W10.setRow (s1 2) #[.int .i64 ((elT (gotK ys j) 0) + ((elT (ys j).1 0) * ((ys j).2))), .int .i64 ((elT (gotK ys j) 1)), .int .i64 ((elT (gotK ys j) 2))] := ⟨_, rfl⟩
  refine tsk (o := _) rfl ⟨rfl, rfl⟩ (run_seg hW11 (fr_ev k10_200) (fr_ev k10_199) b10_1 rfl rfl rfl rfl) ?_
  obtain ⟨fB11, nb11, ot11, z11⟩ := sgf hW11 fB10 b10_1 (by omega)
  clear hW11
  have b11_0 := ot11 _ _ (by omega) b10_0
  have q39' := q38'.other ot11 (ownN_ne q38' b10_1 (by decide)) z11
  refine wpe ?_
  refine ibn ?_
  refine hK16 _ _ ?_
  refine ry 3 [(180, 0), (181, 1), (20, 2)] [[], [0], [0, 1]] (rel [iI 0, iI 1, iI 1])
   ⟨fun f s W m q r x y l => opm (l.v 20 ((x 2 20 rfl rfl).trans k10_20)),
  fun f s W m q r x y l => opv rfl rfl (by simp [go_sem, l.e 180 (q 0 rfl), IntWalk.i64_in (1) (by omega)]) rfl,
  fun f s W m q r x y l => opm (l.v 181 (q 1 rfl)), trivial⟩ ?_
  intro f12 s12 W12 hB12 g12 hg12 z12
  have q40' := (q39'.below hB12.below)
  refine wpe ?_
  have k12_20 := kt hg12 20 (hB12.is 2)
  refine then_normal ?_
  rw [rounds_succ]
  refine wp_seq_k fun K17 hK17 => ?_
  refine rw_ 2 [(178, 0), (179, 1)] [[], [0]] (rel [iI 1, iB true])
   ⟨fun f s W m q r x y l => opm (l.v 20 k12_20),
  fun f s W m q r x y l => opv rfl rfl (by simp [go_sem, l.e 178 (q 0 rfl)]) rfl, trivial⟩ ?_
  intro f13 s13 W13 hB13 g13 hg13 z13
  have fB13 := hB13.f (hB12.f fB11)
  have b13_1 := hB13.b (hB12.b nb11)
  have q41' := (q40'.below hB13.below)
  have k13_10 := kt hg13 10 (kt hg12 10 (kt hg10 10 k9_10))
  have k13_18 := kt hg13 18 (kt hg12 18 (kt hg10 18 k9_18))
  have k13_19 := kt hg13 19 (kt hg12 19 (kt hg10 19 k9_19))
  have k13_20 := kt hg13 20 k12_20
  have k13_179 := kt hg13 179 (hB13.is 1)
  refine wp_cond_true ((fr_eval rfl).trans k13_179) ?_
  refine wp_skip ?_
  refine hK17 _ _ ?_
  refine wp_seq_k fun K20 hK20 => ?_
  refine wp_block ?_
  refine ry 19 [(182, 0), (183, 1), (184, 2), (185, 3), (186, 4), (187, 5), (188, 6), (189, 7), (190, 8), (191, 9), (192, 10), (193, 11), (194, 12), (195, 13), (196, 14), (197, 15), (198, 16), (199, 17), (200, 18)] [[], [0], [1], [], [], [3, 4], [5], [6], [], [7, 8], [9], [], [], [11, 12], [13], [14], [10, 15], [2, 16], [0], [0, 1, 2, 3, 4, 5, 6, 7, 8, 9, 10, 11, 12, 13, 14, 15, 16, 17, 18]] (rel [iI 1, is (.pointer (some ⟨(s1 2), 1, none⟩)), iI ((elT (gotK ys j) 1)), is (.slice aq n cq), iI ((j : Int)), is (.pointer (some ⟨bq, oq + j * 2, none⟩)), is (.pointer (some ⟨bq, oq + j * 2, none⟩)), is (.slice ((adr j)) ((ys j).1.length) ((cpp j))), iI 1, is (.pointer (some ⟨bwj, owj + 1, none⟩)), iI ((elT (ys j).1 1)), is (.slice aq n cq), iI ((j : Int)), is (.pointer (some ⟨bq, oq + j * 2, none⟩)), is (.pointer (some ⟨bq, oq + j * 2 + 1, none⟩)), iI ((ys j).2), iI ((elT (ys j).1 1) * ((ys j).2)), iI ((elT (gotK ys j) 1) + ((elT (ys j).1 1) * ((ys j).2))), is (.pointer (some ⟨(s1 2), 1, none⟩))])
   ⟨fun f s W m q r x y l => opm (l.v 20 k13_20),
  fun f s W m q r x y l => opv rfl rfl (by simp [go_sem, l.e 18 k13_18, l.e 182 (q 0 rfl)]) rfl,
  fun f s W m q r x y l => opv rfl rfl (by simp [go_sem, l.e 183 (q 1 rfl), cl (bwb b13_1 m) 1]) rfl,
  fun f s W m q r x y l => opm (l.v 10 k13_10),
  fun f s W m q r x y l => opm (l.v 19 k13_19),
  fun f s W m q r x y l => by have hab := hal (by omega); have li_ := Nat.not_le.2 hjn; have li2_ : (j : Int) < (n : Int) := (by omega); exact opv rfl rfl (by simp [go_sem, l.e 185 (q 3 rfl), l.e 186 (q 4 rfl), hab, li_, li2_]) rfl,
  fun f s W m q r x y l => opv rfl rfl (by simp [go_sem, l.e 187 (q 5 rfl)]) rfl,
  fun f s W m q r x y l => by have z := bwt fB13 m; have cu_ := (hS.below z).2 j hjn; have cu0_ := cu_.1; have cu1_ := cu_.2.1; exact opv rfl rfl (by simp [go_sem, l.e 188 (q 6 rfl), cu0_, cu1_]) rfl,
  fun f s W m q r x y l => opm (l.v 20 k13_20),
  fun f s W m q r x y l => by have hab := hwj; have li_ := Nat.not_le.2 (show 1 < (ys j).1.length by rw [hlj_]; decide); have li2_ : (1 : Int) < ((ys j).1.length : Int) := (by rw [hlj_]; decide); exact opv rfl rfl (by simp [go_sem, l.e 189 (q 7 rfl), l.e 190 (q 8 rfl), hab, li_, li2_]) rfl,
  fun f s W m q r x y l => by have z := bwt fB13 m; have cu_ := iq_atn ((hS.below z).2 j hjn).2.2 hwj (show 1 < (ys j).1.length by rw [hlj_]; decide); exact opv rfl rfl (by simp [go_sem, l.e 191 (q 9 rfl), cu_]) rfl,
  fun f s W m q r x y l => opm (l.v 10 k13_10),
  fun f s W m q r x y l => opm (l.v 19 k13_19),
  fun f s W m q r x y l => by have hab := hal (by omega); have li_ := Nat.not_le.2 hjn; have li2_ : (j : Int) < (n : Int) := (by omega); exact opv rfl rfl (by simp [go_sem, l.e 193 (q 11 rfl), l.e 194 (q 12 rfl), hab, li_, li2_]) rfl,
  fun f s W m q r x y l => opv rfl rfl (by simp [go_sem, l.e 195 (q 13 rfl)]) rfl,
  fun f s W m q r x y l => by have z := bwt fB13 m; have cu_ := (hS.below z).2 j hjn; have cu0_ := cu_.1; have cu1_ := cu_.2.1; exact opv rfl rfl (by simp [go_sem, l.e 196 (q 14 rfl), cu0_, cu1_]) rfl,
  fun f s W m q r x y l => opv rfl rfl (by simp [go_sem, l.e 192 (q 10 rfl), l.e 197 (q 15 rfl), IntWalk.i64_in ((elT (ys j).1 1) * ((ys j).2)) (by omega)]) rfl,
  fun f s W m q r x y l => opv rfl rfl (by simp [go_sem, l.e 184 (q 2 rfl), l.e 198 (q 16 rfl), IntWalk.i64_in ((elT (gotK ys j) 1) + ((elT (ys j).1 1) * ((ys j).2))) (by omega)]) rfl,
  fun f s W m q r x y l => opv rfl rfl (by simp [go_sem, l.e 18 k13_18, l.e 182 (q 0 rfl)]) rfl, trivial⟩ ?_
  intro f14 s14 W14 hB14 g14 hg14 z14
  have fB14 := hB14.f fB13
  have b14_0 := hB14.b (hB13.b (hB12.b b11_0))
  have b14_1 := hB14.b b13_1
  have q42' := (q41'.below hB14.below)
  have k14_20 := kt hg14 20 k13_20
  have k14_199 := kt hg14 199 (hB14.is 17)
  have k14_200 := kt hg14 200 (hB14.is 18)
  obtain ⟨W15, hW15⟩ : ∃ W', W' = W14.setRow (s1 2) #[.int .i64 ((elT (gotK ys j) 0) + ((elT (ys j).1 0) * ((ys j).2))), .int .i64 ((elT (gotK ys j) 1) + ((elT (ys j).1 1) * ((ys j).2))), .int .i64 ((elT (gotK ys j) 2))] := ⟨_, rfl⟩
  refine tsk (o := _) rfl ⟨rfl, rfl⟩ (run_seg hW15 (fr_ev k14_200) (fr_ev k14_199) b14_1 rfl rfl rfl rfl) ?_
  obtain ⟨fB15, nb15, ot15, z15⟩ := sgf hW15 fB14 b14_1 (by omega)
  clear hW15
  have b15_0 := ot15 _ _ (by omega) b14_0
  have q43' := q42'.other ot15 (ownN_ne q42' b14_1 (by decide)) z15
  refine wpe ?_
  refine ibn ?_
  refine hK20 _ _ ?_
  refine ry 3 [(180, 0), (181, 1), (20, 2)] [[], [0], [0, 1]] (rel [iI 1, iI 2, iI 2])
   ⟨fun f s W m q r x y l => opm (l.v 20 ((x 2 20 rfl rfl).trans k14_20)),
  fun f s W m q r x y l => opv rfl rfl (by simp [go_sem, l.e 180 (q 0 rfl), IntWalk.i64_in (2) (by omega)]) rfl,
  fun f s W m q r x y l => opm (l.v 181 (q 1 rfl)), trivial⟩ ?_
  intro f16 s16 W16 hB16 g16 hg16 z16
  have q44' := (q43'.below hB16.below)
  refine wpe ?_
  have k16_20 := kt hg16 20 (hB16.is 2)
  refine then_normal ?_
  rw [rounds_succ]
  refine wp_seq_k fun K21 hK21 => ?_
  refine rw_ 2 [(178, 0), (179, 1)] [[], [0]] (rel [iI 2, iB true])
   ⟨fun f s W m q r x y l => opm (l.v 20 k16_20),
  fun f s W m q r x y l => opv rfl rfl (by simp [go_sem, l.e 178 (q 0 rfl)]) rfl, trivial⟩ ?_
  intro f17 s17 W17 hB17 g17 hg17 z17
  have fB17 := hB17.f (hB16.f fB15)
  have b17_1 := hB17.b (hB16.b nb15)
  have q45' := (q44'.below hB17.below)
  have k17_10 := kt hg17 10 (kt hg16 10 (kt hg14 10 k13_10))
  have k17_18 := kt hg17 18 (kt hg16 18 (kt hg14 18 k13_18))
  have k17_19 := kt hg17 19 (kt hg16 19 (kt hg14 19 k13_19))
  have k17_20 := kt hg17 20 k16_20
  have k17_179 := kt hg17 179 (hB17.is 1)
  refine wp_cond_true ((fr_eval rfl).trans k17_179) ?_
  refine wp_skip ?_
  refine hK21 _ _ ?_
  refine wp_seq_k fun K24 hK24 => ?_
  refine wp_block ?_
  refine ry 19 [(182, 0), (183, 1), (184, 2), (185, 3), (186, 4), (187, 5), (188, 6), (189, 7), (190, 8), (191, 9), (192, 10), (193, 11), (194, 12), (195, 13), (196, 14), (197, 15), (198, 16), (199, 17), (200, 18)] [[], [0], [1], [], [], [3, 4], [5], [6], [], [7, 8], [9], [], [], [11, 12], [13], [14], [10, 15], [2, 16], [0], [0, 1, 2, 3, 4, 5, 6, 7, 8, 9, 10, 11, 12, 13, 14, 15, 16, 17, 18]] (rel [iI 2, is (.pointer (some ⟨(s1 2), 2, none⟩)), iI ((elT (gotK ys j) 2)), is (.slice aq n cq), iI ((j : Int)), is (.pointer (some ⟨bq, oq + j * 2, none⟩)), is (.pointer (some ⟨bq, oq + j * 2, none⟩)), is (.slice ((adr j)) ((ys j).1.length) ((cpp j))), iI 2, is (.pointer (some ⟨bwj, owj + 2, none⟩)), iI ((elT (ys j).1 2)), is (.slice aq n cq), iI ((j : Int)), is (.pointer (some ⟨bq, oq + j * 2, none⟩)), is (.pointer (some ⟨bq, oq + j * 2 + 1, none⟩)), iI ((ys j).2), iI ((elT (ys j).1 2) * ((ys j).2)), iI ((elT (gotK ys j) 2) + ((elT (ys j).1 2) * ((ys j).2))), is (.pointer (some ⟨(s1 2), 2, none⟩))])
   ⟨fun f s W m q r x y l => opm (l.v 20 k17_20),
  fun f s W m q r x y l => opv rfl rfl (by simp [go_sem, l.e 18 k17_18, l.e 182 (q 0 rfl)]) rfl,
  fun f s W m q r x y l => opv rfl rfl (by simp [go_sem, l.e 183 (q 1 rfl), cl (bwb b17_1 m) 2]) rfl,
  fun f s W m q r x y l => opm (l.v 10 k17_10),
  fun f s W m q r x y l => opm (l.v 19 k17_19),
  fun f s W m q r x y l => by have hab := hal (by omega); have li_ := Nat.not_le.2 hjn; have li2_ : (j : Int) < (n : Int) := (by omega); exact opv rfl rfl (by simp [go_sem, l.e 185 (q 3 rfl), l.e 186 (q 4 rfl), hab, li_, li2_]) rfl,
  fun f s W m q r x y l => opv rfl rfl (by simp [go_sem, l.e 187 (q 5 rfl)]) rfl,
  fun f s W m q r x y l => by have z := bwt fB17 m; have cu_ := (hS.below z).2 j hjn; have cu0_ := cu_.1; have cu1_ := cu_.2.1; exact opv rfl rfl (by simp [go_sem, l.e 188 (q 6 rfl), cu0_, cu1_]) rfl,
  fun f s W m q r x y l => opm (l.v 20 k17_20),
  fun f s W m q r x y l => by have hab := hwj; have li_ := Nat.not_le.2 (show 2 < (ys j).1.length by rw [hlj_]; decide); have li2_ : (2 : Int) < ((ys j).1.length : Int) := (by rw [hlj_]; decide); exact opv rfl rfl (by simp [go_sem, l.e 189 (q 7 rfl), l.e 190 (q 8 rfl), hab, li_, li2_]) rfl,
  fun f s W m q r x y l => by have z := bwt fB17 m; have cu_ := iq_atn ((hS.below z).2 j hjn).2.2 hwj (show 2 < (ys j).1.length by rw [hlj_]; decide); exact opv rfl rfl (by simp [go_sem, l.e 191 (q 9 rfl), cu_]) rfl,
  fun f s W m q r x y l => opm (l.v 10 k17_10),
  fun f s W m q r x y l => opm (l.v 19 k17_19),
  fun f s W m q r x y l => by have hab := hal (by omega); have li_ := Nat.not_le.2 hjn; have li2_ : (j : Int) < (n : Int) := (by omega); exact opv rfl rfl (by simp [go_sem, l.e 193 (q 11 rfl), l.e 194 (q 12 rfl), hab, li_, li2_]) rfl,
  fun f s W m q r x y l => opv rfl rfl (by simp [go_sem, l.e 195 (q 13 rfl)]) rfl,
  fun f s W m q r x y l => by have z := bwt fB17 m; have cu_ := (hS.below z).2 j hjn; have cu0_ := cu_.1; have cu1_ := cu_.2.1; exact opv rfl rfl (by simp [go_sem, l.e 196 (q 14 rfl), cu0_, cu1_]) rfl,
  fun f s W m q r x y l => opv rfl rfl (by simp [go_sem, l.e 192 (q 10 rfl), l.e 197 (q 15 rfl), IntWalk.i64_in ((elT (ys j).1 2) * ((ys j).2)) (by omega)]) rfl,
  fun f s W m q r x y l => opv rfl rfl (by simp [go_sem, l.e 184 (q 2 rfl), l.e 198 (q 16 rfl), IntWalk.i64_in ((elT (gotK ys j) 2) + ((elT (ys j).1 2) * ((ys j).2))) (by omega)]) rfl,
  fun f s W m q r x y l => opv rfl rfl (by simp [go_sem, l.e 18 k17_18, l.e 182 (q 0 rfl)]) rfl, trivial⟩ ?_
  intro f18 s18 W18 hB18 g18 hg18 z18
  have fB18 := hB18.f fB17
  have b18_0 := hB18.b (hB17.b (hB16.b b15_0))
  have b18_1 := hB18.b b17_1
  have q46' := (q45'.below hB18.below)
  have k18_20 := kt hg18 20 k17_20
  have k18_199 := kt hg18 199 (hB18.is 17)
  have k18_200 := kt hg18 200 (hB18.is 18)
  obtain ⟨W19, hW19⟩ : ∃ W', W' = W18.setRow (s1 2) #[.int .i64 ((elT (gotK ys j) 0) + ((elT (ys j).1 0) * ((ys j).2))), .int .i64 ((elT (gotK ys j) 1) + ((elT (ys j).1 1) * ((ys j).2))), .int .i64 ((elT (gotK ys j) 2) + ((elT (ys j).1 2) * ((ys j).2)))] := ⟨_, rfl⟩
  refine tsk (o := _) rfl ⟨rfl, rfl⟩ (run_seg hW19 (fr_ev k18_200) (fr_ev k18_199) b18_1 rfl rfl rfl rfl) ?_
  obtain ⟨fB19, nb19, ot19, z19⟩ := sgf hW19 fB18 b18_1 (by omega)
  clear hW19
  have b19_0 := ot19 _ _ (by omega) b18_0
  have q47' := q46'.other ot19 (ownN_ne q46' b18_1 (by decide)) z19
  refine wpe ?_
  refine ibn ?_
  refine hK24 _ _ ?_
  refine ry 3 [(180, 0), (181, 1), (20, 2)] [[], [0], [0, 1]] (rel [iI 2, iI 3, iI 3])
   ⟨fun f s W m q r x y l => opm (l.v 20 ((x 2 20 rfl rfl).trans k18_20)),
  fun f s W m q r x y l => opv rfl rfl (by simp [go_sem, l.e 180 (q 0 rfl), IntWalk.i64_in (3) (by omega)]) rfl,
  fun f s W m q r x y l => opm (l.v 181 (q 1 rfl)), trivial⟩ ?_
  intro f20 s20 W20 hB20 g20 hg20 z20
  have q48' := (q47'.below hB20.below)
  refine wpe ?_
  have k20_20 := kt hg20 20 (hB20.is 2)
  refine then_normal ?_
  rw [rounds_succ]
  refine wp_seq_k fun K25 hK25 => ?_
  refine rw_ 2 [(178, 0), (179, 1)] [[], [0]] (rel [iI 3, iB false])
   ⟨fun f s W m q r x y l => opm (l.v 20 k20_20),
  fun f s W m q r x y l => opv rfl rfl (by simp [go_sem, l.e 178 (q 0 rfl)]) rfl, trivial⟩ ?_
  intro f21 s21 W21 hB21 g21 hg21 z21
  have q49' := (q48'.below hB21.below)
  have k21_19 := kt hg21 19 (kt hg20 19 (kt hg18 19 k17_19))
  have k21_179 := kt hg21 179 (hB21.is 1)
  refine wp_cond_false ((fr_eval rfl).trans k21_179) ?_
  refine wp_exit ?_
  refine then_exit ?_
  refine then_exit ?_
  refine inBlock_at ?_
  refine ibn ?_
  refine hK7 _ _ ?_
  refine ry 3 [(135, 0), (136, 1), (19, 2)] [[], [0], [0, 1]] (rel [iI ((j : Int)), iI ((j : Int) + 1), iI ((j : Int) + 1)])
   ⟨fun f s W m q r x y l => opm (l.v 19 ((x 2 19 rfl rfl).trans k21_19)),
  fun f s W m q r x y l => opv rfl rfl (by simp [go_sem, l.e 135 (q 0 rfl), IntWalk.i64_in ((j : Int) + 1) (by omega)]) rfl,
  fun f s W m q r x y l => opm (l.v 136 (q 1 rfl)), trivial⟩ ?_
  intro f22 s22 W22 hB22 g22 hg22 z22
  have fB22 := hB22.f (hB21.f (hB20.f fB19))
  have b22_0 := hB22.b (hB21.b (hB20.b b19_0))
  have b22_1 := hB22.b (hB21.b (hB20.b nb19))
  have q50' := (q49'.below hB22.below)
  refine wpe ?_
  have k22_2 := kt hg22 2 (kt hg21 2 (kt hg20 2 (kt hg18 2 (kt hg17 2 (kt hg16 2 (kt hg14 2 (kt hg13 2 (kt hg12 2 (kt hg10 2 (kt hg9 2 (kt hg8 2 (ku hg7 2 (kt hg6 2 (kt hg5 2 k4_2))))))))))))))
  have k22_3 := kt hg22 3 (kt hg21 3 (kt hg20 3 (kt hg18 3 (kt hg17 3 (kt hg16 3 (kt hg14 3 (kt hg13 3 (kt hg12 3 (kt hg10 3 (kt hg9 3 (kt hg8 3 (ku hg7 3 (kt hg6 3 (kt hg5 3 k4_3))))))))))))))
  have k22_10 := kt hg22 10 (kt hg21 10 (kt hg20 10 (kt hg18 10 k17_10)))
  have k22_12 := kt hg22 12 (kt hg21 12 (kt hg20 12 (kt hg18 12 (kt hg17 12 (kt hg16 12 (kt hg14 12 (kt hg13 12 (kt hg12 12 (kt hg10 12 (kt hg9 12 (kt hg8 12 (ku hg7 12 (kt hg6 12 (kt hg5 12 k4_12))))))))))))))
  have k22_15 := kt hg22 15 (kt hg21 15 (kt hg20 15 (kt hg18 15 (kt hg17 15 (kt hg16 15 (kt hg14 15 (kt hg13 15 (kt hg12 15 (kt hg10 15 (kt hg9 15 (kt hg8 15 (ku hg7 15 (kt hg6 15 (kt hg5 15 k4_15))))))))))))))
  have k22_18 := kt hg22 18 (kt hg21 18 (kt hg20 18 (kt hg18 18 k17_18)))
  have k22_16 := kt hg22 16 (kt hg21 16 (kt hg20 16 (kt hg18 16 (kt hg17 16 (kt hg16 16 (kt hg14 16 (kt hg13 16 (kt hg12 16 (kt hg10 16 (kt hg9 16 (kt hg8 16 (ku hg7 16 (kt hg6 16 ea6)))))))))))))
  have k22_17 := kt hg22 17 (kt hg21 17 (kt hg20 17 (kt hg18 17 (kt hg17 17 (kt hg16 17 (kt hg14 17 (kt hg13 17 (kt hg12 17 (kt hg10 17 (kt hg9 17 (kt hg8 17 (kt hg7 17 (upd_same _ _ _)))))))))))))
  have k22_19 := kt hg22 19 (hB22.is 2)
  refine then_normal ?_
  exact ⟨_, by omega, g22, rfl, j + 1, ga6, ca6, rfl, k22_2, k22_3, k22_10, k22_12, k22_15, k22_18, k22_19.trans (by go_num), k22_16.trans rfl, k22_17.trans rfl, fB22, (by omega), b22_0, (by rw [gotq_at ys j (show 0 < 3 by decide), gotq_at ys j (show 1 < 3 by decide), gotq_at ys j (show 2 < 3 by decide)]; exact b22_1), q50', (by omega)⟩
 ·
  have hc6' := hc6; try simp only [ba] at hc6'
  have hnj : n = j := by omega
  subst hnj
  ·
   refine wp_exit ?_
   refine then_exit ?_
   refine then_exit ?_
   refine inBlock_at ?_
   refine hK2 _ _ ?_
   refine wp_seq_k fun K28 hK28 => ?_
   refine rw_ 31 [(201, 0), (202, 1), (203, 2), (204, 3), (205, 4), (206, 5), (207, 6), (208, 7), (209, 8), (210, 9), (211, 10), (212, 11), (213, 12), (214, 13), (215, 14), (216, 15), (217, 16), (218, 17), (219, 18), (220, 19), (221, 20), (222, 21), (223, 22), (224, 23), (225, 24), (226, 25), (227, 26), (228, 27), (229, 28), (230, 29), (231, 30)] [[], [0], [1], [2], [2, 3], [2, 4], [2, 5], [6], [7], [7, 8], [7, 9], [7], [7, 11], [7, 10, 12], [7, 13], [14], [15], [15, 16], [15, 17], [15], [15, 19], [15, 18, 20], [15, 21], [22], [23], [23, 24], [23, 25], [23], [23, 27], [23, 26, 28], [23, 29]] (rel [iI 0, iB false, iB false, is (.slice (some ⟨gg_, 0, none⟩) 3 cgg), iI 3, iB false, iB false, iB false, is (.slice (some ⟨gg_, 0, none⟩) 3 cgg), is (.pointer (some ⟨gg_, 0, none⟩)), iI ((elT (gotK ys n) 0)), is (.pointer (some ⟨(s1 2), 0, none⟩)), iI ((elT (gotK ys n) 0)), iB false, iB false, iB false, is (.slice (some ⟨gg_, 0, none⟩) 3 cgg), is (.pointer (some ⟨gg_, 1, none⟩)), iI ((elT (gotK ys n) 1)), is (.pointer (some ⟨(s1 2), 1, none⟩)), iI ((elT (gotK ys n) 1)), iB false, iB false, iB false, is (.slice (some ⟨gg_, 0, none⟩) 3 cgg), is (.pointer (some ⟨gg_, 2, none⟩)), iI ((elT (gotK ys n) 2)), is (.pointer (some ⟨(s1 2), 2, none⟩)), iI ((elT (gotK ys n) 2)), iB false, iB false])
    ⟨fun f s W m q r x y l => opm (l.v 15 k4_15),
  fun f s W m q r x y l => opv rfl rfl (by simp [go_sem, l.e 201 (q 0 rfl)]) rfl,
  fun f s W m q r x y l => opm (l.v 202 (q 1 rfl)),
  fun f s W m q r x y l => osure rfl rfl (l.says (d := 203) rfl rfl (q 2 rfl)) (gv (by simp [go_sem, l.e 12 k4_12]) rfl),
  fun f s W m q r x y l => osure rfl rfl (l.says (d := 203) rfl rfl (q 2 rfl)) (gv (by simp [go_sem, l.e 204 (q 3 rfl)]) rfl),
  fun f s W m q r x y l => osure rfl rfl (l.says (d := 203) rfl rfl (q 2 rfl)) (gv (by simp [go_sem, l.e 205 (q 4 rfl)]) rfl),
  fun f s W m q r x y l => opk (c := false) rfl rfl (fun _ => by simp [go_sem, l.e 203 (q 2 rfl), l.e 206 (q 5 rfl)]) (fun h => absurd h (by decide)),
  fun f s W m q r x y l => opm (l.v 207 (q 6 rfl)),
  fun f s W m q r x y l => osure rfl rfl (l.says (d := 208) rfl rfl (q 7 rfl)) (gv (by simp [go_sem, l.e 12 k4_12]) rfl),
  fun f s W m q r x y l => osure rfl rfl (l.says (d := 208) rfl rfl (q 7 rfl)) (gv (by simp [go_sem, l.e 209 (q 8 rfl)]) rfl),
  fun f s W m q r x y l => osure rfl rfl (l.says (d := 208) rfl rfl (q 7 rfl)) (by have z := bwt fB4 m; have cu_ := ii_at3 (hG.below z (Nat.le_refl _)) (show 0 < 3 by decide); exact gv (by simp [go_sem, l.e 210 (q 9 rfl), cu_]) rfl),
  fun f s W m q r x y l => osure rfl rfl (l.says (d := 208) rfl rfl (q 7 rfl)) (gv (by simp [go_sem, l.e 18 k4_18]) rfl),
  fun f s W m q r x y l => osure rfl rfl (l.says (d := 208) rfl rfl (q 7 rfl)) (gv (by simp [go_sem, l.e 212 (q 11 rfl), cl (bwb b4_1 m) 0]) rfl),
  fun f s W m q r x y l => osure rfl rfl (l.says (d := 208) rfl rfl (q 7 rfl)) (gv (by simp [go_sem, l.e 211 (q 10 rfl), l.e 213 (q 12 rfl)]) rfl),
  fun f s W m q r x y l => opk (c := false) rfl rfl (fun _ => by simp [go_sem, l.e 208 (q 7 rfl), l.e 214 (q 13 rfl)]) (fun h => absurd h (by decide)),
  fun f s W m q r x y l => opm (l.v 215 (q 14 rfl)),
  fun f s W m q r x y l => osure rfl rfl (l.says (d := 216) rfl rfl (q 15 rfl)) (gv (by simp [go_sem, l.e 12 k4_12]) rfl),
  fun f s W m q r x y l => osure rfl rfl (l.says (d := 216) rfl rfl (q 15 rfl)) (gv (by simp [go_sem, l.e 217 (q 16 rfl)]) rfl),
  fun f s W m q r x y l => osure rfl rfl (l.says (d := 216) rfl rfl (q 15 rfl)) (by have z := bwt fB4 m; have cu_ := ii_at3 (hG.below z (Nat.le_refl _)) (show 1 < 3 by decide); exact gv (by simp [go_sem, l.e 218 (q 17 rfl), cu_]) rfl),
  fun f s W m q r x y l => osure rfl rfl (l.says (d := 216) rfl rfl (q 15 rfl)) (gv (by simp [go_sem, l.e 18 k4_18]) rfl),
  fun f s W m q r x y l => osure rfl rfl (l.says (d := 216) rfl rfl (q 15 rfl)) (gv (by simp [go_sem, l.e 220 (q 19 rfl), cl (bwb b4_1 m) 1]) rfl),
  fun f s W m q r x y l => osure rfl rfl (l.says (d := 216) rfl rfl (q 15 rfl)) (gv (by simp [go_sem, l.e 219 (q 18 rfl), l.e 221 (q 20 rfl)]) rfl),
  fun f s W m q r x y l => opk (c := false) rfl rfl (fun _ => by simp [go_sem, l.e 216 (q 15 rfl), l.e 222 (q 21 rfl)]) (fun h => absurd h (by decide)),
  fun f s W m q r x y l => opm (l.v 223 (q 22 rfl)),
  fun f s W m q r x y l => osure rfl rfl (l.says (d := 224) rfl rfl (q 23 rfl)) (gv (by simp [go_sem, l.e 12 k4_12]) rfl),
  fun f s W m q r x y l => osure rfl rfl (l.says (d := 224) rfl rfl (q 23 rfl)) (gv (by simp [go_sem, l.e 225 (q 24 rfl)]) rfl),
  fun f s W m q r x y l => osure rfl rfl (l.says (d := 224) rfl rfl (q 23 rfl)) (by have z := bwt fB4 m; have cu_ := ii_at3 (hG.below z (Nat.le_refl _)) (show 2 < 3 by decide); exact gv (by simp [go_sem, l.e 226 (q 25 rfl), cu_]) rfl),
  fun f s W m q r x y l => osure rfl rfl (l.says (d := 224) rfl rfl (q 23 rfl)) (gv (by simp [go_sem, l.e 18 k4_18]) rfl),
  fun f s W m q r x y l => osure rfl rfl (l.says (d := 224) rfl rfl (q 23 rfl)) (gv (by simp [go_sem, l.e 228 (q 27 rfl), cl (bwb b4_1 m) 2]) rfl),
  fun f s W m q r x y l => osure rfl rfl (l.says (d := 224) rfl rfl (q 23 rfl)) (gv (by simp [go_sem, l.e 227 (q 26 rfl), l.e 229 (q 28 rfl)]) rfl),
  fun f s W m q r x y l => opk (c := false) rfl rfl (fun _ => by simp [go_sem, l.e 224 (q 23 rfl), l.e 230 (q 29 rfl)]) (fun h => absurd h (by decide)), trivial⟩ ?_
   intro f23 s23 W23 hB23 g23 hg23 z23
   have fB23 := hB23.f fB4
   have b23_0 := hB23.b b4_0
   have q51' := (q34'.below hB23.below)
   have k23_2 := kt hg23 2 k4_2
   have k23_3 := kt hg23 3 k4_3
   have k23_16 := kt hg23 16 k4_16
   have k23_17 := kt hg23 17 k4_17
   have k23_231 := kt hg23 231 (hB23.is 30)
   refine wp_cond_false ((fr_eval rfl).trans k23_231) ?_
   refine wp_skip ?_
   refine hK28 _ _ ?_
   exact rolls_c tb ap ta np cp nb cb pv bs (lgY ys) n ht hp hgt_.n3 (lgY_in hgt_) w0 W23 (bwt hbase_ fB23) (hR.below fB23) (hT.below fB23) b3 (some ⟨gq, 0, none⟩) (cq2) b23_0 (ownN_rdL q51') g23 k23_2 k23_3 k23_16 k23_17
end Go.Proofs.Ytcgccflcjejlhaa
