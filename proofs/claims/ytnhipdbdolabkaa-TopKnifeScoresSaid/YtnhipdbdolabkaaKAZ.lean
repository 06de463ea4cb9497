/- Part of the proof: what the claim leans on. -/
import Derived.Test.YtnhipdbdolabkaaKAM
import Derived.Test.YtnhipdbdolabkaaKAO
import Derived.Test.YtnhipdbdolabkaaKAY
import Derived.Test.YtnhipdbdolabkaaKAV
set_option linter.unusedSimpArgs false
set_option linter.unusedVariables false
namespace Go.Proofs.Ytnhipdbdolabkaa
open Go.RowKit
theorem ii_ne_cells {W : World} {g o n c b : Nat} {xs : List Int} {cs : Array Value} {T : TypeId} {m : Nat × Nat} (h : Ii W (some ⟨g, o, none⟩) n c xs) (h0 : 0 < xs.length) (hb : W.heap[b]? = some (.cells cs T m)) (hc : ∀ (j : Nat) (x : Int), cs[j]? ≠ some (.int .i64 x)) : g ≠ b := by
  rintro rfl
  obtain ⟨b', o', e, -, h2⟩ := h.at h0
  cases e
  have h3 := h2 0 h0
  rw [Joins.cell_of_block hb] at h3
  exact hc _ _ h3
theorem ii_lt {W : World} {g o n c : Nat} {xs : List Int} (h : Ii W (some ⟨g, o, none⟩) n c xs) (h0 : 0 < xs.length) : g < W.heap.size := by
  obtain ⟨b', o', e, hlt, -⟩ := h.at h0
  cases e; exact hlt
/-- A list of four numbers. -/
def Is4 (xs : List Int) (v : Value) (W : World) : Prop := ∃ b o c, v = .slice (some ⟨b, o, none⟩) 4 c ∧ Ii W (some ⟨b, o, none⟩) 4 c xs
theorem Is4.below {xs : List Int} {v : Value} {W W' : World} (h : Is4 xs v W) (hb : Below W.heap.size W W') : Is4 xs v W' := by
  obtain ⟨b, o, c, e, h⟩ := h; exact ⟨b, o, c, e, h.below hb (Nat.le_refl _)⟩
theorem is4_of {xs ys : List Int} {a : Option Addr} {n c : Nat} {W : World} (h : Ii W a n c ys) (e : ys = xs) (hl : xs.length = 4) : Is4 xs (.slice a n c) W := by
  subst e
  obtain rfl : n = 4 := h.1.trans hl
  obtain ⟨b, o, rfl, -, -⟩ := h.at (by omega)
  exact ⟨b, o, c, rfl, h⟩
theorem ii_at4 {W : World} {g o c k : Nat} {xs : List Int} (h : Ii W (some ⟨g, o, none⟩) 4 c xs) (hk : k < 4) : W.cell? ⟨g, o + k, none⟩ = some (.int .i64 (elT xs k)) := by
  obtain ⟨b, o', h1⟩ := h.open
  obtain ⟨e, h2⟩ := h1 (by omega)
  cases e
  exact h2 W (Below.refl _ _) k hk
theorem like_yes {f t : Nat → Int} {k : Nat} (h : f k = t k) : likeF f t (k + 1) = likeF f t k + 1 := if_pos h
theorem like_no {f t : Nat → Int} {k : Nat} (h : ¬ f k = t k) : likeF f t (k + 1) = likeF f t k := if_neg h
def IsAny (v : Value) (W : World) : Prop := True
set_option maxRecDepth 100000 in
set_option maxHeartbeats 40000000 in
theorem knife_main (sv : Nat → Int) (tb0 lg0 wd0 hh0 fp0 fq0 sl0 tb1 lg1 wd1 hh1 fp1 fq1 sl1 tb2 lg2 wd2 hh2 fp2 fq2 sl2 : Int) (ac0 al0 ac1 al1 ac2 al2 : Int) (bb0 bb1 bb2 : Bl) (xs0 xs1 xs2 : List Int) (n00 n01 n02 n10 n11 n12 n20 n21 n22 : Int) (w : World) (hpb : ∀ W, Calls Try.prog 7 #[.agg #[.int .u8 ((sv 0)), .int .u8 ((sv 1)), .int .u8 ((sv 2)), .int .u8 ((sv 3)), .int .u8 ((sv 4)), .int .u8 ((sv 5)), .int .u8 ((sv 6)), .int .u8 ((sv 7)), .int .u8 ((sv 8)), .int .u8 ((sv 9)), .int .u8 ((sv 10)), .int .u8 ((sv 11)), .int .u8 ((sv 12)), .int .u8 ((sv 13)), .int .u8 ((sv 14)), .int .u8 ((sv 15)), .int .u8 ((sv 16)), .int .u8 ((sv 17)), .int .u8 ((sv 18)), .int .u8 ((sv 19)), .int .u8 ((sv 20)), .int .u8 ((sv 21)), .int .u8 ((sv 22)), .int .u8 ((sv 23)), .int .u8 ((sv 24)), .int .u8 ((sv 25)), .int .u8 ((sv 26)), .int .u8 ((sv 27)), .int .u8 ((sv 28)), .int .u8 ((sv 29)), .int .u8 ((sv 30))]] W (fun e w' => ∃ v1 v2 v3, e = .returned (.tuple #[v1, v2, v3, .bool true]) ∧ BxsO tb0 lg0 wd0 hh0 fp0 fq0 sl0 tb1 lg1 wd1 hh1 fp1 fq1 sl1 tb2 lg2 wd2 hh2 fp2 fq2 sl2 v1 w' ∧ OwI 0 [ac0, ac1, ac2] 3 v2 w' ∧ OwI 0 [al0, al1, al2] 3 v3 w' ∧ Below W.heap.size W w')) (hbb0 : (⟨tb0, [lg0, wd0, lg0, wd0], hh0, [fp0, fp0], [fp0, fq0], sl0, false⟩ : Bl) = bb0) (hck0 : checkErr bb0 = 0) (hsc0 : scoresOf bb0 = xs0) (hln0 : xs0.length = 4) (gx0 : ∀ x ∈ xs0, 0 ≤ x ∧ x ≤ 3000) (hs0 : ∀ j, 0 < j → j < 4 → elT xs0 (j - 1) ≤ elT xs0 j) (hcm0 : Lib.compact xs0 = xs0) (hbb1 : (⟨tb1, [lg1, wd1, lg1, wd1], hh1, [fp1, fp1], [fp1, fq1], sl1, false⟩ : Bl) = bb1) (hck1 : checkErr bb1 = 0) (hsc1 : scoresOf bb1 = xs1) (hln1 : xs1.length = 4) (gx1 : ∀ x ∈ xs1, 0 ≤ x ∧ x ≤ 3000) (hs1 : ∀ j, 0 < j → j < 4 → elT xs1 (j - 1) ≤ elT xs1 j) (hcm1 : Lib.compact xs1 = xs1) (hbb2 : (⟨tb2, [lg2, wd2, lg2, wd2], hh2, [fp2, fp2], [fp2, fq2], sl2, false⟩ : Bl) = bb2) (hck2 : checkErr bb2 = 0) (hsc2 : scoresOf bb2 = xs2) (hln2 : xs2.length = 4) (gx2 : ∀ x ∈ xs2, 0 ≤ x ∧ x ≤ 3000) (hs2 : ∀ j, 0 < j → j < 4 → elT xs2 (j - 1) ≤ elT xs2 j) (hcm2 : Lib.compact xs2 = xs2) (hn00 : chT (elT xs0) (elT xs0) 4 4 = n00) (gn00 : 0 ≤ n00 ∧ n00 ≤ 4000) (hn01 : chT (elT xs0) (elT xs1) 4 4 = n01) (gn01 : 0 ≤ n01 ∧ n01 ≤ 4000) (hn02 : chT (elT xs0) (elT xs2) 4 4 = n02) (gn02 : 0 ≤ n02 ∧ n02 ≤ 4000) (hn10 : chT (elT xs1) (elT xs0) 4 4 = n10) (gn10 : 0 ≤ n10 ∧ n10 ≤ 4000) (hn11 : chT (elT xs1) (elT xs1) 4 4 = n11) (gn11 : 0 ≤ n11 ∧ n11 ≤ 4000) (hn12 : chT (elT xs1) (elT xs2) 4 4 = n12) (gn12 : 0 ≤ n12 ∧ n12 ≤ 4000) (hn20 : chT (elT xs2) (elT xs0) 4 4 = n20) (gn20 : 0 ≤ n20 ∧ n20 ≤ 4000) (hn21 : chT (elT xs2) (elT xs1) 4 4 = n21) (gn21 : 0 ≤ n21 ∧ n21 ≤ 4000) (hn22 : chT (elT xs2) (elT xs2) 4 4 = n22) (gn22 : 0 ≤ n22 ∧ n22 ≤ 4000) (hz0 : n00 = 0) (hz1 : n11 = 0) (hz2 : n01 = n10) (hz3 : n02 ≤ (n01 + n12)) (hz4 : n01 ≤ (1000 * (4 - (likeF (elT xs0) (elT xs1) 4)))) :
  Calls Try.prog 4 #[.agg #[.int .u8 ((sv 0)), .int .u8 ((sv 1)), .int .u8 ((sv 2)), .int .u8 ((sv 3)), .int .u8 ((sv 4)), .int .u8 ((sv 5)), .int .u8 ((sv 6)), .int .u8 ((sv 7)), .int .u8 ((sv 8)), .int .u8 ((sv 9)), .int .u8 ((sv 10)), .int .u8 ((sv 11)), .int .u8 ((sv 12)), .int .u8 ((sv 13)), .int .u8 ((sv 14)), .int .u8 ((sv 15)), .int .u8 ((sv 16)), .int .u8 ((sv 17)), .int .u8 ((sv 18)), .int .u8 ((sv 19)), .int .u8 ((sv 20)), .int .u8 ((sv 21)), .int .u8 ((sv 22)), .int .u8 ((sv 23)), .int .u8 ((sv 24)), .int .u8 ((sv 25)), .int .u8 ((sv 26)), .int .u8 ((sv 27)), .int .u8 ((sv 28)), .int .u8 ((sv 29)), .int .u8 ((sv 30))]] w (fun e w' => e = .returned (.bool true) ∧ Below w.heap.size w w') := by
 have dn00_0 : (decide (n00 < 0)) = false := decide_eq_false (by omega)
 have dn00_1 : (decide (4000 < n00)) = false := decide_eq_false (by omega)
 have dn01_0 : (decide (n01 < 0)) = false := decide_eq_false (by omega)
 have dn01_1 : (decide (4000 < n01)) = false := decide_eq_false (by omega)
 have dn02_0 : (decide (n02 < 0)) = false := decide_eq_false (by omega)
 have dn02_1 : (decide (4000 < n02)) = false := decide_eq_false (by omega)
 have dn10_0 : (decide (n10 < 0)) = false := decide_eq_false (by omega)
 have dn10_1 : (decide (4000 < n10)) = false := decide_eq_false (by omega)
 have dn11_0 : (decide (n11 < 0)) = false := decide_eq_false (by omega)
 have dn11_1 : (decide (4000 < n11)) = false := decide_eq_false (by omega)
 have dn12_0 : (decide (n12 < 0)) = false := decide_eq_false (by omega)
 have dn12_1 : (decide (4000 < n12)) = false := decide_eq_false (by omega)
 have dn20_0 : (decide (n20 < 0)) = false := decide_eq_false (by omega)
 have dn20_1 : (decide (4000 < n20)) = false := decide_eq_false (by omega)
 have dn21_0 : (decide (n21 < 0)) = false := decide_eq_false (by omega)
 have dn21_1 : (decide (4000 < n21)) = false := decide_eq_false (by omega)
 have dn22_0 : (decide (n22 < 0)) = false := decide_eq_false (by omega)
 have dn22_1 : (decide (4000 < n22)) = false := decide_eq_false (by omega)
 have dq0 : (n00 == 0) = true := beq_iff_eq.2 hz0
 have dq1 : (n11 == 0) = true := beq_iff_eq.2 hz1
 have dq2 : (n01 == n10) = true := beq_iff_eq.2 hz2
 have dq3 : (decide (n02 ≤ (n01 + n12))) = true := decide_eq_true hz3
 have hl4_0 : 0 < xs0.length := by omega
 have hl4_1 : 0 < xs1.length := by omega
 have hl4_2 : 0 < xs2.length := by omega
 refine calls_fr Try.func4 Try.ntmps4 rfl rfl fun g hg => ?_
 have k0 : g 0 = .agg #[.int .u8 ((sv 0)), .int .u8 ((sv 1)), .int .u8 ((sv 2)), .int .u8 ((sv 3)), .int .u8 ((sv 4)), .int .u8 ((sv 5)), .int .u8 ((sv 6)), .int .u8 ((sv 7)), .int .u8 ((sv 8)), .int .u8 ((sv 9)), .int .u8 ((sv 10)), .int .u8 ((sv 11)), .int .u8 ((sv 12)), .int .u8 ((sv 13)), .int .u8 ((sv 14)), .int .u8 ((sv 15)), .int .u8 ((sv 16)), .int .u8 ((sv 17)), .int .u8 ((sv 18)), .int .u8 ((sv 19)), .int .u8 ((sv 20)), .int .u8 ((sv 21)), .int .u8 ((sv 22)), .int .u8 ((sv 23)), .int .u8 ((sv 24)), .int .u8 ((sv 25)), .int .u8 ((sv 26)), .int .u8 ((sv 27)), .int .u8 ((sv 28)), .int .u8 ((sv 29)), .int .u8 ((sv 30))] := hg 0
 clear hg
 have fB0 : Below w.heap.size w w := Below.refl _ _
 refine wp_seq_k fun K1 hK1 => ?_
 as_aux_lemma =>
 refine region_dk 2 [(1, 0), (2, 1)] [[], []] (rel [bx 0 #[.int .u8 ((sv 0)), .int .u8 ((sv 1)), .int .u8 ((sv 2)), .int .u8 ((sv 3)), .int .u8 ((sv 4)), .int .u8 ((sv 5)), .int .u8 ((sv 6)), .int .u8 ((sv 7)), .int .u8 ((sv 8)), .int .u8 ((sv 9)), .int .u8 ((sv 10)), .int .u8 ((sv 11)), .int .u8 ((sv 12)), .int .u8 ((sv 13)), .int .u8 ((sv 14)), .int .u8 ((sv 15)), .int .u8 ((sv 16)), .int .u8 ((sv 17)), .int .u8 ((sv 18)), .int .u8 ((sv 19)), .int .u8 ((sv 20)), .int .u8 ((sv 21)), .int .u8 ((sv 22)), .int .u8 ((sv 23)), .int .u8 ((sv 24)), .int .u8 ((sv 25)), .int .u8 ((sv 26)), .int .u8 ((sv 27)), .int .u8 ((sv 28)), .int .u8 ((sv 29)), .int .u8 ((sv 30))] 27,
   is (.bool false)])
  ⟨bx_k, is_k, trivial⟩
  ⟨fun f s W l m p q r i => opb rfl rfl (by simp [go_sem, i.e 0 k0]),
  fun f s W l m p q r i => opv rfl rfl (by simp [go_sem]) rfl, trivial⟩ ?_
 intro f1 s1 W1 hB1 g1 hg1
 have fB1 := hB1.f fB0
 have z1 := hB1.below.size
 obtain ⟨r1_0, br1_0⟩ := hB1.is 0
 have lr1_0 := hB1.lr 0 br1_0
 refine hK1 _ _ ?_
 have k1_1 := kt hg1 1 r1_0
 have k1_2 := kt hg1 2 (hB1.is 1)
 refine wp_seq_k fun K2 hK2 => ?_
 as_aux_lemma =>
 refine region_dk 11 [(20, 0), (21, 1), (19, 2), (22, 3), (23, 4), (24, 5), (25, 6), (3, 7), (4, 8), (5, 9), (6, 10)] [[], [0], [0, 1], [0, 1, 2], [0, 1, 2], [0, 1, 2], [0, 1, 2], [0, 1, 2, 3], [0, 1, 2, 3, 4, 7], [0, 1, 2, 3, 4, 5, 7, 8], [0, 1, 2, 3, 4, 5, 6, 7, 8, 9]] (rel [is (.agg #[.int .u8 ((sv 0)), .int .u8 ((sv 1)), .int .u8 ((sv 2)), .int .u8 ((sv 3)), .int .u8 ((sv 4)), .int .u8 ((sv 5)), .int .u8 ((sv 6)), .int .u8 ((sv 7)), .int .u8 ((sv 8)), .int .u8 ((sv 9)), .int .u8 ((sv 10)), .int .u8 ((sv 11)), .int .u8 ((sv 12)), .int .u8 ((sv 13)), .int .u8 ((sv 14)), .int .u8 ((sv 15)), .int .u8 ((sv 16)), .int .u8 ((sv 17)), .int .u8 ((sv 18)), .int .u8 ((sv 19)), .int .u8 ((sv 20)), .int .u8 ((sv 21)), .int .u8 ((sv 22)), .int .u8 ((sv 23)), .int .u8 ((sv 24)), .int .u8 ((sv 25)), .int .u8 ((sv 26)), .int .u8 ((sv 27)), .int .u8 ((sv 28)), .int .u8 ((sv 29)), .int .u8 ((sv 30))]),
   ab fun v W => ∃ x0 x1 x2, v = .tuple #[x0, x1, x2, .bool true] ∧ BxsO tb0 lg0 wd0 hh0 fp0 fq0 sl0 tb1 lg1 wd1 hh1 fp1 fq1 sl1 tb2 lg2 wd2 hh2 fp2 fq2 sl2 x0 W ∧ OwI 0 [ac0, ac1, ac2] 3 x1 W ∧ OwI 0 [al0, al1, al2] 3 x2 W,
   ab fun v W => ∃ x0 x1 x2, v = .tuple #[x0, x1, x2, .bool true] ∧ BxsO tb0 lg0 wd0 hh0 fp0 fq0 sl0 tb1 lg1 wd1 hh1 fp1 fq1 sl1 tb2 lg2 wd2 hh2 fp2 fq2 sl2 x0 W ∧ OwI 0 [ac0, ac1, ac2] 3 x1 W ∧ OwI 0 [al0, al1, al2] 3 x2 W,
   ab fun v W => BxsO tb0 lg0 wd0 hh0 fp0 fq0 sl0 tb1 lg1 wd1 hh1 fp1 fq1 sl1 tb2 lg2 wd2 hh2 fp2 fq2 sl2 v W,
   ab fun v W => OwI 0 [ac0, ac1, ac2] 3 v W,
   ab fun v W => OwI 0 [al0, al1, al2] 3 v W,
   is (.bool true),
   ab fun v W => BxsO tb0 lg0 wd0 hh0 fp0 fq0 sl0 tb1 lg1 wd1 hh1 fp1 fq1 sl1 tb2 lg2 wd2 hh2 fp2 fq2 sl2 v W,
   ab fun v W => OwI 0 [ac0, ac1, ac2] 3 v W,
   ab fun v W => OwI 0 [al0, al1, al2] 3 v W,
   is (.bool true)])
  ⟨is_k, ab_k fun v W W' hb ⟨x0, x1, x2, e, h0, h1, h2⟩ => ⟨x0, x1, x2, e, (h0.below hb), (h1.below hb), (h2.below hb)⟩, ab_k fun v W W' hb ⟨x0, x1, x2, e, h0, h1, h2⟩ => ⟨x0, x1, x2, e, (h0.below hb), (h1.below hb), (h2.below hb)⟩, ab_k fun v W W' hb h => (h.below hb), ab_k fun v W W' hb h => (h.below hb), ab_k fun v W W' hb h => (h.below hb), is_k, ab_k fun v W W' hb h => (h.below hb), ab_k fun v W W' hb h => (h.below hb), ab_k fun v W W' hb h => (h.below hb), is_k, trivial⟩
  ⟨fun f s W l m p q r i => opl rfl rfl rfl (i.v 1 k1_1) (blk_below br1_0 l) Try.underlying27 rfl (by kernel_rfl) rfl,
  fun f s W l m p q r i => opDo_call rfl rfl (by simp [go_sem, i.e 20 (m 0 rfl)]) (hpb W) ((fun e W' h => by obtain ⟨v1, v2, v3, e1, h1, h2, h3, h4⟩ := h; exact ⟨_, e1, h4, ⟨v1, v2, v3, rfl, h1, h2, h3⟩⟩)),
  fun f s W l m p q r i => opv (v := (f 1)) rfl rfl (by simp [go_sem, (i.at' 21 rfl : r.tmps[21]?.getD undef = f 1)] <;> rfl) (m 1 rfl),
  fun f s W l m p q r i => by obtain ⟨x2_0, x2_1, x2_2, d2, p2_0, p2_1, p2_2⟩ := (m 2 rfl); exact opv (v := x2_0) rfl rfl (by simp [go_sem, i.e 19 d2]) p2_0,
  fun f s W l m p q r i => by obtain ⟨x2_0, x2_1, x2_2, d2, p2_0, p2_1, p2_2⟩ := (m 2 rfl); exact opv (v := x2_1) rfl rfl (by simp [go_sem, i.e 19 d2]) p2_1,
  fun f s W l m p q r i => by obtain ⟨x2_0, x2_1, x2_2, d2, p2_0, p2_1, p2_2⟩ := (m 2 rfl); exact opv (v := x2_2) rfl rfl (by simp [go_sem, i.e 19 d2]) p2_2,
  fun f s W l m p q r i => by obtain ⟨x2_0, x2_1, x2_2, d2, p2_0, p2_1, p2_2⟩ := (m 2 rfl); exact opv rfl rfl (by simp [go_sem, i.e 19 d2]) rfl,
  fun f s W l m p q r i => opv (v := (f 3)) rfl rfl (by simp [go_sem, (i.at' 22 rfl : r.tmps[22]?.getD undef = f 3)] <;> rfl) (m 3 rfl),
  fun f s W l m p q r i => opv (v := (f 4)) rfl rfl (by simp [go_sem, (i.at' 23 rfl : r.tmps[23]?.getD undef = f 4)] <;> rfl) (m 4 rfl),
  fun f s W l m p q r i => opv (v := (f 5)) rfl rfl (by simp [go_sem, (i.at' 24 rfl : r.tmps[24]?.getD undef = f 5)] <;> rfl) (m 5 rfl),
  fun f s W l m p q r i => opv rfl rfl (by simp [go_sem, i.e 25 (m 6 rfl)]) rfl, trivial⟩ ?_
 intro f2 s2 W2 hB2 g2 hg2
 have fB2 := hB2.f fB1
 have z2 := hB2.below.size
 have b2_0 := hB2.b br1_0
 obtain ⟨gl, cl, gg_, cc_, r2_7, q17', q18', q19', q20', q21', q22', q23', q24', q25', q26'⟩ := hB2.is 7
 refine hK2 _ _ ?_
 have k2_2 := kt hg2 2 k1_2
 have k2_3 := kt hg2 3 r2_7
 have k2_6 := kt hg2 6 (hB2.is 10)
 refine wp_seq_k fun K3 hK3 => ?_
 refine wp_seq_k fun K4 hK4 => ?_
 as_aux_lemma =>
 refine region_dk 2 [(26, 0), (27, 1)] [[], [0]] (rel [is (.bool true),
   is (.bool false)])
  ⟨is_k, is_k, trivial⟩
  ⟨fun f s W l m p q r i => opv rfl rfl (by simp [go_sem, i.e 6 k2_6]) rfl,
  fun f s W l m p q r i => opv rfl rfl (by simp [go_sem, i.e 26 (m 0 rfl)]) rfl, trivial⟩ ?_
 intro f3 s3 W3 hB3 g3 hg3
 have fB3 := hB3.f fB2
 have z3 := hB3.below.size
 have b3_0 := hB3.b b2_0
 have q27' := (q17'.below hB3.below)
 have q28' := (q18'.below hB3.below)
 have q29' := (q19'.below hB3.below)
 have q30' := (q20'.below hB3.below)
 have q31' := (q21'.below hB3.below)
 have q32' := (q22'.below hB3.below)
 have q33' := (q23'.below hB3.below)
 have q34' := (q24'.below hB3.below)
 have q35' := (q25'.below hB3.below)
 have q36' := (q26'.below hB3.below)
 refine hK4 _ _ ?_
 have k3_2 := kt hg3 2 k2_2
 have k3_3 := kt hg3 3 k2_3
 have k3_27 := kt hg3 27 (hB3.is 1)
 refine wp_cond_false ((fr_eval rfl).trans k3_27) ?_
 refine wp_skip ?_
 refine hK3 _ _ ?_
 refine wp_seq_k fun K6 hK6 => ?_
 as_aux_lemma =>
 refine region_dk 2 [(28, 0), (7, 1)] [[], [], [0, 1]] (rel [is (.agg #[.slice (none) (0) (0), .slice (none) (0) (0), .slice (none) (0) (0)]),
   bx 1 #[.slice (none) (0) (0), .slice (none) (0) (0), .slice (none) (0) (0)] 53])
  ⟨is_k, bx_k, trivial⟩
  ⟨fun f s W l m p q r i => opv rfl rfl (by simp [go_sem]) rfl,
  fun f s W l m p q r i => opb rfl rfl (by simp [go_sem]), trivial⟩ ?_
 intro f4 s4 W4 hB4 g4 hg4
 have fB4 := hB4.f fB3
 have z4 := hB4.below.size
 have b4_0 := hB4.b b3_0
 have q37' := (q27'.below hB4.below)
 have q38' := (q28'.below hB4.below)
 have q39' := (q29'.below hB4.below)
 have q40' := (q30'.below hB4.below)
 have q41' := (q31'.below hB4.below)
 have q42' := (q32'.below hB4.below)
 have q43' := (q33'.below hB4.below)
 have q44' := (q34'.below hB4.below)
 have q45' := (q35'.below hB4.below)
 have q46' := (q36'.below hB4.below)
 obtain ⟨r4_1, br4_1⟩ := hB4.is 1
 have lr4_1 := hB4.lr 1 br4_1
 have k4_2 := kt hg4 2 k3_2
 have k4_3 := kt hg4 3 k3_3
 have k4_28 := kt hg4 28 (hB4.is 0)
 have k4_7 := kt hg4 7 r4_1
 obtain ⟨W5, hW5⟩ : ∃ W', W' = W4.setRow (s4 1) #[.slice (none) (0) (0), .slice (none) (0) (0), .slice (none) (0) (0)] := ⟨_, rfl⟩
 refine tail_skip (o := _) rfl ⟨rfl, rfl⟩ (run_seg hW5 (fr_ev k4_7) (fr_ev k4_28) br4_1 rfl rfl rfl rfl) ?_
 obtain ⟨fB5, nb5, ot5, z5⟩ := seg_facts hW5 fB4 br4_1 (by omega)
 clear hW5
 have b5_0 := ot5 _ _ (by omega) b4_0
 have q47' := q37'.other ot5 (ownN_ne (.inr ⟨_, rfl, q37'⟩) br4_1 (by decide) _ rfl) z5
 have q48' := q38'.other ot5 (own_ne q38' br4_1) z5
 have q49' := q39'.other ot5 (own_ne q39' br4_1) z5
 have q50' := q40'.other ot5 (own_ne q40' br4_1) z5
 have q51' := q41'.other ot5 (own_ne q41' br4_1) z5
 have q52' := q42'.other ot5 (own_ne q42' br4_1) z5
 have q53' := q43'.other ot5 (own_ne q43' br4_1) z5
 have q54' := q44'.other ot5 (own_ne q44' br4_1) z5
 have q55' := q45'.other ot5 (own_ne q45' br4_1) z5
 have q56' := q46'.other ot5 (own_ne q46' br4_1) z5
 refine wpOps_end ?_
 refine hK6 _ _ ?_
 refine wp_seq_k fun K7 hK7 => ?_
 refine wp_seq_k fun K8 hK8 => ?_
 as_aux_lemma =>
 refine region_dk 1 [(8, 0)] [[]] (rel [is (.int .i64 0)])
  ⟨is_k, trivial⟩
  ⟨fun f s W l m p q r i => opv rfl rfl (by simp [go_sem]) rfl, trivial⟩ ?_
 intro f6 s6 W6 hB6 g6 hg6
 have fB6 := hB6.f fB5
 have z6 := hB6.below.size
 have b6_0 := hB6.b b5_0
 have b6_1 := hB6.b nb5
 have q57' := (q47'.below hB6.below)
 have q58' := (q48'.below hB6.below)
 have q59' := (q49'.below hB6.below)
 have q60' := (q50'.below hB6.below)
 have q61' := (q51'.below hB6.below)
 have q62' := (q52'.below hB6.below)
 have q63' := (q53'.below hB6.below)
 have q64' := (q54'.below hB6.below)
 have q65' := (q55'.below hB6.below)
 have q66' := (q56'.below hB6.below)
 refine hK8 _ _ ?_
 have k6_2 := kt hg6 2 k4_2
 have k6_3 := kt hg6 3 k4_3
 have k6_7 := kt hg6 7 k4_7
 have k6_8 := kt hg6 8 (hB6.is 0)
 refine wp_block ?_
 refine wp_loop_rounds 4 ?_
 rw [rounds_succ]
 refine wp_seq_k fun K9 hK9 => ?_
 refine wp_seq_k fun K10 hK10 => ?_
 as_aux_lemma =>
 refine region_dk 2 [(29, 0), (30, 1)] [[], [0]] (rel [is (.int .i64 0),
   is (.bool true)])
  ⟨is_k, is_k, trivial⟩
  ⟨fun f s W l m p q r i => opv rfl rfl (by simp [go_sem, i.e 8 k6_8]) rfl,
  fun f s W l m p q r i => opv rfl rfl (by simp [go_sem, i.e 29 (m 0 rfl)]) rfl, trivial⟩ ?_
 intro f7 s7 W7 hB7 g7 hg7
 have fB7 := hB7.f fB6
 have z7 := hB7.below.size
 have b7_0 := hB7.b b6_0
 have b7_1 := hB7.b b6_1
 have q67' := (q57'.below hB7.below)
 have q68' := (q58'.below hB7.below)
 have q69' := (q59'.below hB7.below)
 have q70' := (q60'.below hB7.below)
 have q71' := (q61'.below hB7.below)
 have q72' := (q62'.below hB7.below)
 have q73' := (q63'.below hB7.below)
 have q74' := (q64'.below hB7.below)
 have q75' := (q65'.below hB7.below)
 have q76' := (q66'.below hB7.below)
 refine hK10 _ _ ?_
 have k7_2 := kt hg7 2 k6_2
 have k7_3 := kt hg7 3 k6_3
 have k7_7 := kt hg7 7 k6_7
 have k7_8 := kt hg7 8 k6_8
 have k7_30 := kt hg7 30 (hB7.is 1)
 refine wp_cond_true ((fr_eval rfl).trans k7_30) ?_
 refine wp_skip ?_
 refine hK9 _ _ ?_
 refine wp_seq_k fun K12 hK12 => ?_
 refine wp_block ?_
 refine wp_seq_k fun K13 hK13 => ?_
 as_aux_lemma =>
 refine region_dk 13 [(34, 0), (35, 1), (36, 2), (37, 3), (38, 4), (39, 5), (33, 6), (40, 7), (41, 8), (42, 9), (9, 10), (10, 11), (11, 12)] [[], [], [0, 1], [0, 1, 2], [0, 1, 2, 3], [0, 1, 2, 3, 4], [0, 1, 2, 3, 4, 5], [0, 1, 2, 3, 4, 5, 6], [0, 1, 2, 3, 4, 5, 6], [0, 1, 2, 3, 4, 5, 6], [0, 1, 2, 3, 4, 5, 6, 7], [0, 1, 2, 3, 4, 5, 6, 7, 8, 10], [0, 1, 2, 3, 4, 5, 6, 7, 8, 9, 10, 11]] (rel [is (.slice (some ⟨gl, 0, none⟩) (3) (cl)),
   is (.int .i64 0),
   is (.pointer (some ⟨gl, 0, none⟩)),
   is (.agg #[.int .i64 tb0, .slice (some ⟨(gg_ 0), 0, none⟩) (4) ((cc_ 0)), .int .i64 hh0, .slice (some ⟨(gg_ 1), 0, none⟩) (2) ((cc_ 1)), .slice (some ⟨(gg_ 2), 0, none⟩) (2) ((cc_ 2)), .int .i64 sl0, .bool false]),
   ab fun v W => NwBlk 0 (bb0) v W,
   ab fun v W => ∃ x0 x1, v = .tuple #[x0, x1, .int .i64 0] ∧ Is4 xs0 x0 W ∧ IsAny x1 W,
   ab fun v W => ∃ x0 x1, v = .tuple #[x0, x1, .int .i64 0] ∧ Is4 xs0 x0 W ∧ IsAny x1 W,
   ab fun v W => Is4 xs0 v W,
   ab fun v W => IsAny v W,
   is (.int .i64 0),
   ab fun v W => Is4 xs0 v W,
   ab fun v W => IsAny v W,
   is (.int .i64 0)])
  ⟨is_k, is_k, is_k, is_k, ab_k fun v W W' hb h => h.below hb, ab_k fun v W W' hb ⟨x0, x1, e, h0, h1⟩ => ⟨x0, x1, e, (h0.below hb), h1⟩, ab_k fun v W W' hb ⟨x0, x1, e, h0, h1⟩ => ⟨x0, x1, e, (h0.below hb), h1⟩, ab_k fun v W W' hb h => (h.below hb), ab_k fun v W W' hb h => h, is_k, ab_k fun v W W' hb h => (h.below hb), ab_k fun v W W' hb h => h, is_k, trivial⟩
  ⟨fun f s W l m p q r i => opv rfl rfl (by simp [go_sem, i.e 3 k7_3]) rfl,
  fun f s W l m p q r i => opv rfl rfl (by simp [go_sem, i.e 8 k7_8]) rfl,
  fun f s W l m p q r i => opv rfl rfl (by simp [go_sem, i.e 34 (m 0 rfl), i.e 35 (m 1 rfl)]) rfl,
  fun f s W l m p q r i => by have cu0_ : W.cell? ⟨gl, 0, none⟩ = some (.int .i64 tb0) := (q67'.below l).cell 0 rfl; have cu1_ : W.cell? ⟨gl, 1, none⟩ = some (.slice (some ⟨(gg_ 0), 0, none⟩) (4) ((cc_ 0))) := (q67'.below l).cell 1 rfl; have cu2_ : W.cell? ⟨gl, 2, none⟩ = some (.int .i64 hh0) := (q67'.below l).cell 2 rfl; have cu3_ : W.cell? ⟨gl, 3, none⟩ = some (.slice (some ⟨(gg_ 1), 0, none⟩) (2) ((cc_ 1))) := (q67'.below l).cell 3 rfl; have cu4_ : W.cell? ⟨gl, 4, none⟩ = some (.slice (some ⟨(gg_ 2), 0, none⟩) (2) ((cc_ 2))) := (q67'.below l).cell 4 rfl; have cu5_ : W.cell? ⟨gl, 5, none⟩ = some (.int .i64 sl0) := (q67'.below l).cell 5 rfl; have cu6_ : W.cell? ⟨gl, 6, none⟩ = some (.bool false) := (q67'.below l).cell 6 rfl; exact opv rfl rfl (by simp [go_sem, i.e 36 (m 2 rfl), cu0_, cu1_, cu2_, cu3_, cu4_, cu5_, cu6_]) rfl,
  fun f s W l m p q r i => opDo_call (args := #[.agg #[.int .i64 tb0, .slice (some ⟨(gg_ 0), 0, none⟩) (4) ((cc_ 0)), .int .i64 hh0, .slice (some ⟨(gg_ 1), 0, none⟩) (2) ((cc_ 1)), .slice (some ⟨(gg_ 2), 0, none⟩) (2) ((cc_ 2)), .int .i64 sl0, .bool false]]) rfl rfl (by simp [go_sem, i.e 37 (m 3 rfl)]) (pubBlank_any _ _ _ _ _ _ (⟨tb0, [lg0, wd0, lg0, wd0], hh0, [fp0, fp0], [fp0, fq0], sl0, false⟩ : Bl) W ((q68'.below l)).ii ((q69'.below l)).ii ((q70'.below l)).ii (show 4 ≤ 1000 by decide) (show 2 ≤ 1000 by decide) (show 2 ≤ 1000 by decide)) ((fun e W' h => by obtain ⟨v, e1, h1, h2⟩ := h; rw [hbb0] at h1; exact ⟨_, e1, h2, h1.low (Nat.zero_le _)⟩)),
  fun f s W l m p q r i => by obtain ⟨g77', c80', g78', c81', g79', c82', d4, ⟨q83', q85', q84'⟩, ⟨q86', q88', q87'⟩, ⟨q89', q91', q90'⟩⟩ := (m 4 rfl); exact opDo_call (args := #[.agg #[.int .i64 bb0.tab, .slice (some ⟨g77', 0, none⟩) (bb0.panels.length) (c80'), .int .i64 bb0.height, .slice (some ⟨g78', 0, none⟩) (bb0.top.length) (c81'), .slice (some ⟨g79', 0, none⟩) (bb0.bottom.length) (c82'), .int .i64 bb0.slot, .bool bb0.isOpen]]) rfl rfl (by simp [go_sem, i.e 38 d4]) (scores_any _ bb0 W ⟨_, _, _, _, _, _, _, _, _, rfl, q83', q86', q89'⟩) ((fun e W' h => by obtain ⟨a, n, c, a', n', c', e1, h1, h2, h3⟩ := h; rw [hck0] at e1; exact ⟨_, e1, h3, ⟨_, _, rfl, is4_of h1 ((if_pos hck0).trans hsc0) hln0, trivial⟩⟩)),
  fun f s W l m p q r i => opv (v := (f 5)) rfl rfl (by simp [go_sem, (i.at' 39 rfl : r.tmps[39]?.getD undef = f 5)] <;> rfl) (m 5 rfl),
  fun f s W l m p q r i => by obtain ⟨x6_0, x6_1, d6, p6_0, p6_1⟩ := (m 6 rfl); exact opv (v := x6_0) rfl rfl (by simp [go_sem, i.e 33 d6]) p6_0,
  fun f s W l m p q r i => by obtain ⟨x6_0, x6_1, d6, p6_0, p6_1⟩ := (m 6 rfl); exact opv (v := x6_1) rfl rfl (by simp [go_sem, i.e 33 d6]) p6_1,
  fun f s W l m p q r i => by obtain ⟨x6_0, x6_1, d6, p6_0, p6_1⟩ := (m 6 rfl); exact opv rfl rfl (by simp [go_sem, i.e 33 d6]) rfl,
  fun f s W l m p q r i => opv (v := (f 7)) rfl rfl (by simp [go_sem, (i.at' 40 rfl : r.tmps[40]?.getD undef = f 7)] <;> rfl) (m 7 rfl),
  fun f s W l m p q r i => opv (v := (f 8)) rfl rfl (by simp [go_sem, (i.at' 41 rfl : r.tmps[41]?.getD undef = f 8)] <;> rfl) (m 8 rfl),
  fun f s W l m p q r i => opv rfl rfl (by simp [go_sem, i.e 42 (m 9 rfl)]) rfl, trivial⟩ ?_
 intro f8 s8 W8 hB8 g8 hg8
 have fB8 := hB8.f fB7
 have z8 := hB8.below.size
 have b8_0 := hB8.b b7_0
 have b8_1 := hB8.b b7_1
 have q96' := (q67'.below hB8.below)
 have q97' := (q68'.below hB8.below)
 have q98' := (q69'.below hB8.below)
 have q99' := (q70'.below hB8.below)
 have q100' := (q71'.below hB8.below)
 have q101' := (q72'.below hB8.below)
 have q102' := (q73'.below hB8.below)
 have q103' := (q74'.below hB8.below)
 have q104' := (q75'.below hB8.below)
 have q105' := (q76'.below hB8.below)
 obtain ⟨b106', o107', c108', r8_10, q109'⟩ := hB8.is 10
 refine hK13 _ _ ?_
 have k8_2 := kt hg8 2 k7_2
 have k8_3 := kt hg8 3 k7_3
 have k8_7 := kt hg8 7 k7_7
 have k8_8 := kt hg8 8 k7_8
 have k8_30 := kt hg8 30 k7_30
 have k8_9 := kt hg8 9 r8_10
 have k8_11 := kt hg8 11 (hB8.is 12)
 refine wp_seq_k fun K14 hK14 => ?_
 refine wp_seq_k fun K15 hK15 => ?_
 as_aux_lemma =>
 refine region_dk 7 [(43, 0), (44, 1), (45, 2), (46, 3), (47, 4), (48, 5), (49, 6)] [[], [0], [0, 1], [0, 1, 2], [0, 1, 2, 3], [0, 1, 2, 3, 4], [0, 1, 2, 3, 4, 5]] (rel [is (.int .i64 0),
   is (.bool false),
   is (.bool false),
   is (.slice (some ⟨b106', o107', none⟩) (4) (c108')),
   is (.int .i64 4),
   is (.bool false),
   is (.bool false)])
  ⟨is_k, is_k, is_k, is_k, is_k, is_k, is_k, trivial⟩
  ⟨fun f s W l m p q r i => opv rfl rfl (by simp [go_sem, i.e 11 k8_11]) rfl,
  fun f s W l m p q r i => opv rfl rfl (by simp [go_sem, i.e 43 (m 0 rfl)]) rfl,
  fun f s W l m p q r i => opv rfl rfl (by simp [go_sem, i.e 44 (m 1 rfl)]) rfl,
  fun f s W l m p q r i => osure rfl rfl (i.says (d := 45) rfl rfl (m 2 rfl)) (gv (by simp [go_sem, i.e 9 k8_9]) rfl),
  fun f s W l m p q r i => osure rfl rfl (i.says (d := 45) rfl rfl (m 2 rfl)) (gv (by simp [go_sem, i.e 46 (m 3 rfl)]) rfl),
  fun f s W l m p q r i => osure rfl rfl (i.says (d := 45) rfl rfl (m 2 rfl)) (gv (by simp [go_sem, i.e 47 (m 4 rfl)]) rfl),
  fun f s W l m p q r i => opk (c := false) rfl rfl (fun _ => by simp [go_sem, i.e 45 (m 2 rfl), i.e 48 (m 5 rfl)]) (fun h => absurd h (by decide)), trivial⟩ ?_
 intro f9 s9 W9 hB9 g9 hg9
 have fB9 := hB9.f fB8
 have z9 := hB9.below.size
 have b9_0 := hB9.b b8_0
 have b9_1 := hB9.b b8_1
 have q110' := (q96'.below hB9.below)
 have q111' := (q97'.below hB9.below)
 have q112' := (q98'.below hB9.below)
 have q113' := (q99'.below hB9.below)
 have q114' := (q100'.below hB9.below)
 have q115' := (q101'.below hB9.below)
 have q116' := (q102'.below hB9.below)
 have q117' := (q103'.below hB9.below)
 have q118' := (q104'.below hB9.below)
 have q119' := (q105'.below hB9.below)
 have q120' := (q109'.bw hB9)
 refine hK15 _ _ ?_
 have k9_2 := kt hg9 2 k8_2
 have k9_3 := kt hg9 3 k8_3
 have k9_7 := kt hg9 7 k8_7
 have k9_8 := kt hg9 8 k8_8
 have k9_30 := kt hg9 30 k8_30
 have k9_9 := kt hg9 9 k8_9
 have k9_11 := kt hg9 11 k8_11
 have k9_49 := kt hg9 49 (hB9.is 6)
 refine wp_cond_false ((fr_eval rfl).trans k9_49) ?_
 refine wp_skip ?_
 refine hK14 _ _ ?_
 as_aux_lemma =>
 refine region_dk 3 [(50, 0), (51, 1), (52, 2)] [[], [], [0, 1], [0, 1, 2]] (rel [is (.int .i64 0),
   is (.slice (some ⟨b106', o107', none⟩) (4) (c108')),
   is (.pointer (some ⟨(s4 1), 0, none⟩))])
  ⟨is_k, is_k, is_k, trivial⟩
  ⟨fun f s W l m p q r i => opv rfl rfl (by simp [go_sem, i.e 8 k9_8]) rfl,
  fun f s W l m p q r i => opv rfl rfl (by simp [go_sem, i.e 9 k9_9]) rfl,
  fun f s W l m p q r i => opv rfl rfl (by simp [go_sem, i.e 7 k9_7, i.e 50 (m 0 rfl)]) rfl, trivial⟩ ?_
 intro f10 s10 W10 hB10 g10 hg10
 have fB10 := hB10.f fB9
 have z10 := hB10.below.size
 have b10_0 := hB10.b b9_0
 have b10_1 := hB10.b b9_1
 have q121' := (q110'.below hB10.below)
 have q122' := (q111'.below hB10.below)
 have q123' := (q112'.below hB10.below)
 have q124' := (q113'.below hB10.below)
 have q125' := (q114'.below hB10.below)
 have q126' := (q115'.below hB10.below)
 have q127' := (q116'.below hB10.below)
 have q128' := (q117'.below hB10.below)
 have q129' := (q118'.below hB10.below)
 have q130' := (q119'.below hB10.below)
 have q131' := (q120'.bw hB10)
 have k10_2 := kt hg10 2 k9_2
 have k10_3 := kt hg10 3 k9_3
 have k10_7 := kt hg10 7 k9_7
 have k10_8 := kt hg10 8 k9_8
 have k10_30 := kt hg10 30 k9_30
 have k10_9 := kt hg10 9 k9_9
 have k10_11 := kt hg10 11 k9_11
 have k10_49 := kt hg10 49 k9_49
 have k10_51 := kt hg10 51 (hB10.is 1)
 have k10_52 := kt hg10 52 (hB10.is 2)
 obtain ⟨W11, hW11⟩ : ∃ W', W' = W10.setRow (s4 1) #[.slice (some ⟨b106', o107', none⟩) (4) (c108'), .slice (none) (0) (0), .slice (none) (0) (0)] := ⟨_, rfl⟩
 refine tail_skip (o := _) rfl ⟨rfl, rfl⟩ (run_seg hW11 (fr_ev k10_52) (fr_ev k10_51) b10_1 rfl rfl rfl rfl) ?_
 obtain ⟨fB11, nb11, ot11, z11⟩ := seg_facts hW11 fB10 b10_1 (by omega)
 have q132' := Ii.keepX q131' (keepX_row hW11) (fun b o e => by cases e; exact ii_ne_cells q131' hl4_0 b10_1 (by intro j x; rcases j with _ | _ | _ | j <;> simp))
 clear hW11
 have b11_0 := ot11 _ _ (by omega) b10_0
 have q133' := q121'.other ot11 (ownN_ne (.inr ⟨_, rfl, q121'⟩) b10_1 (by decide) _ rfl) z11
 have q134' := q122'.other ot11 (own_ne q122' b10_1) z11
 have q135' := q123'.other ot11 (own_ne q123' b10_1) z11
 have q136' := q124'.other ot11 (own_ne q124' b10_1) z11
 have q137' := q125'.other ot11 (own_ne q125' b10_1) z11
 have q138' := q126'.other ot11 (own_ne q126' b10_1) z11
 have q139' := q127'.other ot11 (own_ne q127' b10_1) z11
 have q140' := q128'.other ot11 (own_ne q128' b10_1) z11
 have q141' := q129'.other ot11 (own_ne q129' b10_1) z11
 have q142' := q130'.other ot11 (own_ne q130' b10_1) z11
 refine wpOps_end ?_
 refine inBlock_normal ?_
 refine hK12 _ _ ?_
 as_aux_lemma =>
 refine region_dk 3 [(31, 0), (32, 1), (8, 2)] [[], [0], [0, 1]] (rel [is (.int .i64 0),
   is (.int .i64 1),
   is (.int .i64 1)])
  ⟨is_k, is_k, is_k, trivial⟩
  ⟨fun f s W l m p q r i => opv rfl rfl (by simp [go_sem, i.e 8 ((q 2 8 rfl rfl).trans k10_8)]) rfl,
  fun f s W l m p q r i => opv rfl rfl (by simp [go_sem, i.e 31 (m 0 rfl), IntWalk.i64_in (1) (by omega)]) rfl,
  fun f s W l m p q r i => opv rfl rfl (by simp [go_sem, i.e 32 (m 1 rfl)]) rfl, trivial⟩ ?_
 intro f12 s12 W12 hB12 g12 hg12
 have fB12 := hB12.f fB11
 have z12 := hB12.below.size
 have b12_0 := hB12.b b11_0
 have b12_1 := hB12.b nb11
 have q143' := (q133'.below hB12.below)
 have q144' := (q134'.below hB12.below)
 have q145' := (q135'.below hB12.below)
 have q146' := (q136'.below hB12.below)
 have q147' := (q137'.below hB12.below)
 have q148' := (q138'.below hB12.below)
 have q149' := (q139'.below hB12.below)
 have q150' := (q140'.below hB12.below)
 have q151' := (q141'.below hB12.below)
 have q152' := (q142'.below hB12.below)
 have q153' := (q132'.bw hB12)
 refine wpOps_end ?_
 have k12_2 := kt hg12 2 k10_2
 have k12_3 := kt hg12 3 k10_3
 have k12_7 := kt hg12 7 k10_7
 have k12_30 := kt hg12 30 k10_30
 have k12_9 := kt hg12 9 k10_9
 have k12_11 := kt hg12 11 k10_11
 have k12_49 := kt hg12 49 k10_49
 have k12_51 := kt hg12 51 k10_51
 have k12_52 := kt hg12 52 k10_52
 have k12_8 := kt hg12 8 (hB12.is 2)
 refine then_normal ?_
 rw [rounds_succ]
 refine wp_seq_k fun K17 hK17 => ?_
 refine wp_seq_k fun K18 hK18 => ?_
 as_aux_lemma =>
 refine region_dk 2 [(29, 0), (30, 1)] [[], [0]] (rel [is (.int .i64 1),
   is (.bool true)])
  ⟨is_k, is_k, trivial⟩
  ⟨fun f s W l m p q r i => opv rfl rfl (by simp [go_sem, i.e 8 k12_8]) rfl,
  fun f s W l m p q r i => opv rfl rfl (by simp [go_sem, i.e 29 (m 0 rfl)]) rfl, trivial⟩ ?_
 intro f13 s13 W13 hB13 g13 hg13
 have fB13 := hB13.f fB12
 have z13 := hB13.below.size
 have b13_0 := hB13.b b12_0
 have b13_1 := hB13.b b12_1
 have q154' := (q143'.below hB13.below)
 have q155' := (q144'.below hB13.below)
 have q156' := (q145'.below hB13.below)
 have q157' := (q146'.below hB13.below)
 have q158' := (q147'.below hB13.below)
 have q159' := (q148'.below hB13.below)
 have q160' := (q149'.below hB13.below)
 have q161' := (q150'.below hB13.below)
 have q162' := (q151'.below hB13.below)
 have q163' := (q152'.below hB13.below)
 have q164' := (q153'.bw hB13)
 refine hK18 _ _ ?_
 have k13_2 := kt hg13 2 k12_2
 have k13_3 := kt hg13 3 k12_3
 have k13_7 := kt hg13 7 k12_7
 have k13_9 := kt hg13 9 k12_9
 have k13_11 := kt hg13 11 k12_11
 have k13_49 := kt hg13 49 k12_49
 have k13_51 := kt hg13 51 k12_51
 have k13_52 := kt hg13 52 k12_52
 have k13_8 := kt hg13 8 k12_8
 have k13_30 := kt hg13 30 (hB13.is 1)
 refine wp_cond_true ((fr_eval rfl).trans k13_30) ?_
 refine wp_skip ?_
 refine hK17 _ _ ?_
 refine wp_seq_k fun K20 hK20 => ?_
 refine wp_block ?_
 refine wp_seq_k fun K21 hK21 => ?_
 as_aux_lemma =>
 refine region_dk 13 [(34, 0), (35, 1), (36, 2), (37, 3), (38, 4), (39, 5), (33, 6), (40, 7), (41, 8), (42, 9), (9, 10), (10, 11), (11, 12)] [[], [], [0, 1], [0, 1, 2], [0, 1, 2, 3], [0, 1, 2, 3, 4], [0, 1, 2, 3, 4, 5], [0, 1, 2, 3, 4, 5, 6], [0, 1, 2, 3, 4, 5, 6], [0, 1, 2, 3, 4, 5, 6], [0, 1, 2, 3, 4, 5, 6, 7], [0, 1, 2, 3, 4, 5, 6, 7, 8, 10], [0, 1, 2, 3, 4, 5, 6, 7, 8, 9, 10, 11]] (rel [is (.slice (some ⟨gl, 0, none⟩) (3) (cl)),
   is (.int .i64 1),
   is (.pointer (some ⟨gl, 7, none⟩)),
   is (.agg #[.int .i64 tb1, .slice (some ⟨(gg_ 3), 0, none⟩) (4) ((cc_ 3)), .int .i64 hh1, .slice (some ⟨(gg_ 4), 0, none⟩) (2) ((cc_ 4)), .slice (some ⟨(gg_ 5), 0, none⟩) (2) ((cc_ 5)), .int .i64 sl1, .bool false]),
   ab fun v W => NwBlk 0 (bb1) v W,
   ab fun v W => ∃ x0 x1, v = .tuple #[x0, x1, .int .i64 0] ∧ Is4 xs1 x0 W ∧ IsAny x1 W,
   ab fun v W => ∃ x0 x1, v = .tuple #[x0, x1, .int .i64 0] ∧ Is4 xs1 x0 W ∧ IsAny x1 W,
   ab fun v W => Is4 xs1 v W,
   ab fun v W => IsAny v W,
   is (.int .i64 0),
   ab fun v W => Is4 xs1 v W,
   ab fun v W => IsAny v W,
   is (.int .i64 0)])
  ⟨is_k, is_k, is_k, is_k, ab_k fun v W W' hb h => h.below hb, ab_k fun v W W' hb ⟨x0, x1, e, h0, h1⟩ => ⟨x0, x1, e, (h0.below hb), h1⟩, ab_k fun v W W' hb ⟨x0, x1, e, h0, h1⟩ => ⟨x0, x1, e, (h0.below hb), h1⟩, ab_k fun v W W' hb h => (h.below hb), ab_k fun v W W' hb h => h, is_k, ab_k fun v W W' hb h => (h.below hb), ab_k fun v W W' hb h => h, is_k, trivial⟩
  ⟨fun f s W l m p q r i => opv rfl rfl (by simp [go_sem, i.e 3 k13_3]) rfl,
  fun f s W l m p q r i => opv rfl rfl (by simp [go_sem, i.e 8 k13_8]) rfl,
  fun f s W l m p q r i => opv rfl rfl (by simp [go_sem, i.e 34 (m 0 rfl), i.e 35 (m 1 rfl)]) rfl,
  fun f s W l m p q r i => by have cu0_ : W.cell? ⟨gl, 7, none⟩ = some (.int .i64 tb1) := (q154'.below l).cell 7 rfl; have cu1_ : W.cell? ⟨gl, 8, none⟩ = some (.slice (some ⟨(gg_ 3), 0, none⟩) (4) ((cc_ 3))) := (q154'.below l).cell 8 rfl; have cu2_ : W.cell? ⟨gl, 9, none⟩ = some (.int .i64 hh1) := (q154'.below l).cell 9 rfl; have cu3_ : W.cell? ⟨gl, 10, none⟩ = some (.slice (some ⟨(gg_ 4), 0, none⟩) (2) ((cc_ 4))) := (q154'.below l).cell 10 rfl; have cu4_ : W.cell? ⟨gl, 11, none⟩ = some (.slice (some ⟨(gg_ 5), 0, none⟩) (2) ((cc_ 5))) := (q154'.below l).cell 11 rfl; have cu5_ : W.cell? ⟨gl, 12, none⟩ = some (.int .i64 sl1) := (q154'.below l).cell 12 rfl; have cu6_ : W.cell? ⟨gl, 13, none⟩ = some (.bool false) := (q154'.below l).cell 13 rfl; exact opv rfl rfl (by simp [go_sem, i.e 36 (m 2 rfl), cu0_, cu1_, cu2_, cu3_, cu4_, cu5_, cu6_]) rfl,
  fun f s W l m p q r i => opDo_call (args := #[.agg #[.int .i64 tb1, .slice (some ⟨(gg_ 3), 0, none⟩) (4) ((cc_ 3)), .int .i64 hh1, .slice (some ⟨(gg_ 4), 0, none⟩) (2) ((cc_ 4)), .slice (some ⟨(gg_ 5), 0, none⟩) (2) ((cc_ 5)), .int .i64 sl1, .bool false]]) rfl rfl (by simp [go_sem, i.e 37 (m 3 rfl)]) (pubBlank_any _ _ _ _ _ _ (⟨tb1, [lg1, wd1, lg1, wd1], hh1, [fp1, fp1], [fp1, fq1], sl1, false⟩ : Bl) W ((q158'.below l)).ii ((q159'.below l)).ii ((q160'.below l)).ii (show 4 ≤ 1000 by decide) (show 2 ≤ 1000 by decide) (show 2 ≤ 1000 by decide)) ((fun e W' h => by obtain ⟨v, e1, h1, h2⟩ := h; rw [hbb1] at h1; exact ⟨_, e1, h2, h1.low (Nat.zero_le _)⟩)),
  fun f s W l m p q r i => by obtain ⟨g165', c168', g166', c169', g167', c170', d4, ⟨q171', q173', q172'⟩, ⟨q174', q176', q175'⟩, ⟨q177', q179', q178'⟩⟩ := (m 4 rfl); exact opDo_call (args := #[.agg #[.int .i64 bb1.tab, .slice (some ⟨g165', 0, none⟩) (bb1.panels.length) (c168'), .int .i64 bb1.height, .slice (some ⟨g166', 0, none⟩) (bb1.top.length) (c169'), .slice (some ⟨g167', 0, none⟩) (bb1.bottom.length) (c170'), .int .i64 bb1.slot, .bool bb1.isOpen]]) rfl rfl (by simp [go_sem, i.e 38 d4]) (scores_any _ bb1 W ⟨_, _, _, _, _, _, _, _, _, rfl, q171', q174', q177'⟩) ((fun e W' h => by obtain ⟨a, n, c, a', n', c', e1, h1, h2, h3⟩ := h; rw [hck1] at e1; exact ⟨_, e1, h3, ⟨_, _, rfl, is4_of h1 ((if_pos hck1).trans hsc1) hln1, trivial⟩⟩)),
  fun f s W l m p q r i => opv (v := (f 5)) rfl rfl (by simp [go_sem, (i.at' 39 rfl : r.tmps[39]?.getD undef = f 5)] <;> rfl) (m 5 rfl),
  fun f s W l m p q r i => by obtain ⟨x6_0, x6_1, d6, p6_0, p6_1⟩ := (m 6 rfl); exact opv (v := x6_0) rfl rfl (by simp [go_sem, i.e 33 d6]) p6_0,
  fun f s W l m p q r i => by obtain ⟨x6_0, x6_1, d6, p6_0, p6_1⟩ := (m 6 rfl); exact opv (v := x6_1) rfl rfl (by simp [go_sem, i.e 33 d6]) p6_1,
  fun f s W l m p q r i => by obtain ⟨x6_0, x6_1, d6, p6_0, p6_1⟩ := (m 6 rfl); exact opv rfl rfl (by simp [go_sem, i.e 33 d6]) rfl,
  fun f s W l m p q r i => opv (v := (f 7)) rfl rfl (by simp [go_sem, (i.at' 40 rfl : r.tmps[40]?.getD undef = f 7)] <;> rfl) (m 7 rfl),
  fun f s W l m p q r i => opv (v := (f 8)) rfl rfl (by simp [go_sem, (i.at' 41 rfl : r.tmps[41]?.getD undef = f 8)] <;> rfl) (m 8 rfl),
  fun f s W l m p q r i => opv rfl rfl (by simp [go_sem, i.e 42 (m 9 rfl)]) rfl, trivial⟩ ?_
 intro f14 s14 W14 hB14 g14 hg14
 have fB14 := hB14.f fB13
 have z14 := hB14.below.size
 have b14_0 := hB14.b b13_0
 have b14_1 := hB14.b b13_1
 have q184' := (q154'.below hB14.below)
 have q185' := (q155'.below hB14.below)
 have q186' := (q156'.below hB14.below)
 have q187' := (q157'.below hB14.below)
 have q188' := (q158'.below hB14.below)
 have q189' := (q159'.below hB14.below)
 have q190' := (q160'.below hB14.below)
 have q191' := (q161'.below hB14.below)
 have q192' := (q162'.below hB14.below)
 have q193' := (q163'.below hB14.below)
 have q194' := (q164'.bw hB14)
 obtain ⟨b195', o196', c197', r14_10, q198'⟩ := hB14.is 10
 refine hK21 _ _ ?_
 have k14_2 := kt hg14 2 k13_2
 have k14_3 := kt hg14 3 k13_3
 have k14_7 := kt hg14 7 k13_7
 have k14_49 := kt hg14 49 k13_49
 have k14_51 := kt hg14 51 k13_51
 have k14_52 := kt hg14 52 k13_52
 have k14_8 := kt hg14 8 k13_8
 have k14_30 := kt hg14 30 k13_30
 have k14_9 := kt hg14 9 r14_10
 have k14_11 := kt hg14 11 (hB14.is 12)
 refine wp_seq_k fun K22 hK22 => ?_
 refine wp_seq_k fun K23 hK23 => ?_
 as_aux_lemma =>
 refine region_dk 7 [(43, 0), (44, 1), (45, 2), (46, 3), (47, 4), (48, 5), (49, 6)] [[], [0], [0, 1], [0, 1, 2], [0, 1, 2, 3], [0, 1, 2, 3, 4], [0, 1, 2, 3, 4, 5]] (rel [is (.int .i64 0),
   is (.bool false),
   is (.bool false),
   is (.slice (some ⟨b195', o196', none⟩) (4) (c197')),
   is (.int .i64 4),
   is (.bool false),
   is (.bool false)])
  ⟨is_k, is_k, is_k, is_k, is_k, is_k, is_k, trivial⟩
  ⟨fun f s W l m p q r i => opv rfl rfl (by simp [go_sem, i.e 11 k14_11]) rfl,
  fun f s W l m p q r i => opv rfl rfl (by simp [go_sem, i.e 43 (m 0 rfl)]) rfl,
  fun f s W l m p q r i => opv rfl rfl (by simp [go_sem, i.e 44 (m 1 rfl)]) rfl,
  fun f s W l m p q r i => osure rfl rfl (i.says (d := 45) rfl rfl (m 2 rfl)) (gv (by simp [go_sem, i.e 9 k14_9]) rfl),
  fun f s W l m p q r i => osure rfl rfl (i.says (d := 45) rfl rfl (m 2 rfl)) (gv (by simp [go_sem, i.e 46 (m 3 rfl)]) rfl),
  fun f s W l m p q r i => osure rfl rfl (i.says (d := 45) rfl rfl (m 2 rfl)) (gv (by simp [go_sem, i.e 47 (m 4 rfl)]) rfl),
  fun f s W l m p q r i => opk (c := false) rfl rfl (fun _ => by simp [go_sem, i.e 45 (m 2 rfl), i.e 48 (m 5 rfl)]) (fun h => absurd h (by decide)), trivial⟩ ?_
 intro f15 s15 W15 hB15 g15 hg15
 have fB15 := hB15.f fB14
 have z15 := hB15.below.size
 have b15_0 := hB15.b b14_0
 have b15_1 := hB15.b b14_1
 have q199' := (q184'.below hB15.below)
 have q200' := (q185'.below hB15.below)
 have q201' := (q186'.below hB15.below)
 have q202' := (q187'.below hB15.below)
 have q203' := (q188'.below hB15.below)
 have q204' := (q189'.below hB15.below)
 have q205' := (q190'.below hB15.below)
 have q206' := (q191'.below hB15.below)
 have q207' := (q192'.below hB15.below)
 have q208' := (q193'.below hB15.below)
 have q209' := (q194'.bw hB15)
 have q210' := (q198'.bw hB15)
 refine hK23 _ _ ?_
 have k15_2 := kt hg15 2 k14_2
 have k15_3 := kt hg15 3 k14_3
 have k15_7 := kt hg15 7 k14_7
 have k15_51 := kt hg15 51 k14_51
 have k15_52 := kt hg15 52 k14_52
 have k15_8 := kt hg15 8 k14_8
 have k15_30 := kt hg15 30 k14_30
 have k15_9 := kt hg15 9 k14_9
 have k15_11 := kt hg15 11 k14_11
 have k15_49 := kt hg15 49 (hB15.is 6)
 refine wp_cond_false ((fr_eval rfl).trans k15_49) ?_
 refine wp_skip ?_
 refine hK22 _ _ ?_
 as_aux_lemma =>
 refine region_dk 3 [(50, 0), (51, 1), (52, 2)] [[], [], [0, 1], [0, 1, 2]] (rel [is (.int .i64 1),
   is (.slice (some ⟨b195', o196', none⟩) (4) (c197')),
   is (.pointer (some ⟨(s4 1), 1, none⟩))])
  ⟨is_k, is_k, is_k, trivial⟩
  ⟨fun f s W l m p q r i => opv rfl rfl (by simp [go_sem, i.e 8 k15_8]) rfl,
  fun f s W l m p q r i => opv rfl rfl (by simp [go_sem, i.e 9 k15_9]) rfl,
  fun f s W l m p q r i => opv rfl rfl (by simp [go_sem, i.e 7 k15_7, i.e 50 (m 0 rfl)]) rfl, trivial⟩ ?_
 intro f16 s16 W16 hB16 g16 hg16
 have fB16 := hB16.f fB15
 have z16 := hB16.below.size
 have b16_0 := hB16.b b15_0
 have b16_1 := hB16.b b15_1
 have q211' := (q199'.below hB16.below)
 have q212' := (q200'.below hB16.below)
 have q213' := (q201'.below hB16.below)
 have q214' := (q202'.below hB16.below)
 have q215' := (q203'.below hB16.below)
 have q216' := (q204'.below hB16.below)
 have q217' := (q205'.below hB16.below)
 have q218' := (q206'.below hB16.below)
 have q219' := (q207'.below hB16.below)
 have q220' := (q208'.below hB16.below)
 have q221' := (q209'.bw hB16)
 have q222' := (q210'.bw hB16)
 have k16_2 := kt hg16 2 k15_2
 have k16_3 := kt hg16 3 k15_3
 have k16_7 := kt hg16 7 k15_7
 have k16_8 := kt hg16 8 k15_8
 have k16_30 := kt hg16 30 k15_30
 have k16_9 := kt hg16 9 k15_9
 have k16_11 := kt hg16 11 k15_11
 have k16_49 := kt hg16 49 k15_49
 have k16_51 := kt hg16 51 (hB16.is 1)
 have k16_52 := kt hg16 52 (hB16.is 2)
 obtain ⟨W17, hW17⟩ : ∃ W', W' = W16.setRow (s4 1) #[.slice (some ⟨b106', o107', none⟩) (4) (c108'), .slice (some ⟨b195', o196', none⟩) (4) (c197'), .slice (none) (0) (0)] := ⟨_, rfl⟩
 refine tail_skip (o := _) rfl ⟨rfl, rfl⟩ (run_seg hW17 (fr_ev k16_52) (fr_ev k16_51) b16_1 rfl rfl rfl rfl) ?_
 obtain ⟨fB17, nb17, ot17, z17⟩ := seg_facts hW17 fB16 b16_1 (by omega)
 have q223' := Ii.keepX q221' (keepX_row hW17) (fun b o e => by cases e; exact ii_ne_cells q221' hl4_0 b16_1 (by intro j x; rcases j with _ | _ | _ | j <;> simp))
 have q224' := Ii.keepX q222' (keepX_row hW17) (fun b o e => by cases e; exact ii_ne_cells q222' hl4_1 b16_1 (by intro j x; rcases j with _ | _ | _ | j <;> simp))
 clear hW17
 have b17_0 := ot17 _ _ (by omega) b16_0
 have q225' := q211'.other ot17 (ownN_ne (.inr ⟨_, rfl, q211'⟩) b16_1 (by decide) _ rfl) z17
 have q226' := q212'.other ot17 (own_ne q212' b16_1) z17
 have q227' := q213'.other ot17 (own_ne q213' b16_1) z17
 have q228' := q214'.other ot17 (own_ne q214' b16_1) z17
 have q229' := q215'.other ot17 (own_ne q215' b16_1) z17
 have q230' := q216'.other ot17 (own_ne q216' b16_1) z17
 have q231' := q217'.other ot17 (own_ne q217' b16_1) z17
 have q232' := q218'.other ot17 (own_ne q218' b16_1) z17
 have q233' := q219'.other ot17 (own_ne q219' b16_1) z17
 have q234' := q220'.other ot17 (own_ne q220' b16_1) z17
 refine wpOps_end ?_
 refine inBlock_normal ?_
 refine hK20 _ _ ?_
 as_aux_lemma =>
 refine region_dk 3 [(31, 0), (32, 1), (8, 2)] [[], [0], [0, 1]] (rel [is (.int .i64 1),
   is (.int .i64 2),
   is (.int .i64 2)])
  ⟨is_k, is_k, is_k, trivial⟩
  ⟨fun f s W l m p q r i => opv rfl rfl (by simp [go_sem, i.e 8 ((q 2 8 rfl rfl).trans k16_8)]) rfl,
  fun f s W l m p q r i => opv rfl rfl (by simp [go_sem, i.e 31 (m 0 rfl), IntWalk.i64_in (2) (by omega)]) rfl,
  fun f s W l m p q r i => opv rfl rfl (by simp [go_sem, i.e 32 (m 1 rfl)]) rfl, trivial⟩ ?_
 intro f18 s18 W18 hB18 g18 hg18
 have fB18 := hB18.f fB17
 have z18 := hB18.below.size
 have b18_0 := hB18.b b17_0
 have b18_1 := hB18.b nb17
 have q235' := (q225'.below hB18.below)
 have q236' := (q226'.below hB18.below)
 have q237' := (q227'.below hB18.below)
 have q238' := (q228'.below hB18.below)
 have q239' := (q229'.below hB18.below)
 have q240' := (q230'.below hB18.below)
 have q241' := (q231'.below hB18.below)
 have q242' := (q232'.below hB18.below)
 have q243' := (q233'.below hB18.below)
 have q244' := (q234'.below hB18.below)
 have q245' := (q223'.bw hB18)
 have q246' := (q224'.bw hB18)
 refine wpOps_end ?_
 have k18_2 := kt hg18 2 k16_2
 have k18_3 := kt hg18 3 k16_3
 have k18_7 := kt hg18 7 k16_7
 have k18_30 := kt hg18 30 k16_30
 have k18_9 := kt hg18 9 k16_9
 have k18_11 := kt hg18 11 k16_11
 have k18_49 := kt hg18 49 k16_49
 have k18_51 := kt hg18 51 k16_51
 have k18_52 := kt hg18 52 k16_52
 have k18_8 := kt hg18 8 (hB18.is 2)
 refine then_normal ?_
 rw [rounds_succ]
 refine wp_seq_k fun K25 hK25 => ?_
 refine wp_seq_k fun K26 hK26 => ?_
 as_aux_lemma =>
 refine region_dk 2 [(29, 0), (30, 1)] [[], [0]] (rel [is (.int .i64 2),
   is (.bool true)])
  ⟨is_k, is_k, trivial⟩
  ⟨fun f s W l m p q r i => opv rfl rfl (by simp [go_sem, i.e 8 k18_8]) rfl,
  fun f s W l m p q r i => opv rfl rfl (by simp [go_sem, i.e 29 (m 0 rfl)]) rfl, trivial⟩ ?_
 intro f19 s19 W19 hB19 g19 hg19
 have fB19 := hB19.f fB18
 have z19 := hB19.below.size
 have b19_0 := hB19.b b18_0
 have b19_1 := hB19.b b18_1
 have q247' := (q235'.below hB19.below)
 have q248' := (q236'.below hB19.below)
 have q249' := (q237'.below hB19.below)
 have q250' := (q238'.below hB19.below)
 have q251' := (q239'.below hB19.below)
 have q252' := (q240'.below hB19.below)
 have q253' := (q241'.below hB19.below)
 have q254' := (q242'.below hB19.below)
 have q255' := (q243'.below hB19.below)
 have q256' := (q244'.below hB19.below)
 have q257' := (q245'.bw hB19)
 have q258' := (q246'.bw hB19)
 refine hK26 _ _ ?_
 have k19_2 := kt hg19 2 k18_2
 have k19_3 := kt hg19 3 k18_3
 have k19_7 := kt hg19 7 k18_7
 have k19_9 := kt hg19 9 k18_9
 have k19_11 := kt hg19 11 k18_11
 have k19_49 := kt hg19 49 k18_49
 have k19_51 := kt hg19 51 k18_51
 have k19_52 := kt hg19 52 k18_52
 have k19_8 := kt hg19 8 k18_8
 have k19_30 := kt hg19 30 (hB19.is 1)
 refine wp_cond_true ((fr_eval rfl).trans k19_30) ?_
 refine wp_skip ?_
 refine hK25 _ _ ?_
 refine wp_seq_k fun K28 hK28 => ?_
 refine wp_block ?_
 refine wp_seq_k fun K29 hK29 => ?_
 as_aux_lemma =>
 refine region_dk 13 [(34, 0), (35, 1), (36, 2), (37, 3), (38, 4), (39, 5), (33, 6), (40, 7), (41, 8), (42, 9), (9, 10), (10, 11), (11, 12)] [[], [], [0, 1], [0, 1, 2], [0, 1, 2, 3], [0, 1, 2, 3, 4], [0, 1, 2, 3, 4, 5], [0, 1, 2, 3, 4, 5, 6], [0, 1, 2, 3, 4, 5, 6], [0, 1, 2, 3, 4, 5, 6], [0, 1, 2, 3, 4, 5, 6, 7], [0, 1, 2, 3, 4, 5, 6, 7, 8, 10], [0, 1, 2, 3, 4, 5, 6, 7, 8, 9, 10, 11]] (rel [is (.slice (some ⟨gl, 0, none⟩) (3) (cl)),
   is (.int .i64 2),
   is (.pointer (some ⟨gl, 14, none⟩)),
   is (.agg #[.int .i64 tb2, .slice (some ⟨(gg_ 6), 0, none⟩) (4) ((cc_ 6)), .int .i64 hh2, .slice (some ⟨(gg_ 7), 0, none⟩) (2) ((cc_ 7)), .slice (some ⟨(gg_ 8), 0, none⟩) (2) ((cc_ 8)), .int .i64 sl2, .bool false]),
   ab fun v W => NwBlk 0 (bb2) v W,
   ab fun v W => ∃ x0 x1, v = .tuple #[x0, x1, .int .i64 0] ∧ Is4 xs2 x0 W ∧ IsAny x1 W,
   ab fun v W => ∃ x0 x1, v = .tuple #[x0, x1, .int .i64 0] ∧ Is4 xs2 x0 W ∧ IsAny x1 W,
   ab fun v W => Is4 xs2 v W,
   ab fun v W => IsAny v W,
   is (.int .i64 0),
   ab fun v W => Is4 xs2 v W,
   ab fun v W => IsAny v W,
   is (.int .i64 0)])
  ⟨is_k, is_k, is_k, is_k, ab_k fun v W W' hb h => h.below hb, ab_k fun v W W' hb ⟨x0, x1, e, h0, h1⟩ => ⟨x0, x1, e, (h0.below hb), h1⟩, ab_k fun v W W' hb ⟨x0, x1, e, h0, h1⟩ => ⟨x0, x1, e, (h0.below hb), h1⟩, ab_k fun v W W' hb h => (h.below hb), ab_k fun v W W' hb h => h, is_k, ab_k fun v W W' hb h => (h.below hb), ab_k fun v W W' hb h => h, is_k, trivial⟩
  ⟨fun f s W l m p q r i => opv rfl rfl (by simp [go_sem, i.e 3 k19_3]) rfl,
  fun f s W l m p q r i => opv rfl rfl (by simp [go_sem, i.e 8 k19_8]) rfl,
  fun f s W l m p q r i => opv rfl rfl (by simp [go_sem, i.e 34 (m 0 rfl), i.e 35 (m 1 rfl)]) rfl,
  fun f s W l m p q r i => by have cu0_ : W.cell? ⟨gl, 14, none⟩ = some (.int .i64 tb2) := (q247'.below l).cell 14 rfl; have cu1_ : W.cell? ⟨gl, 15, none⟩ = some (.slice (some ⟨(gg_ 6), 0, none⟩) (4) ((cc_ 6))) := (q247'.below l).cell 15 rfl; have cu2_ : W.cell? ⟨gl, 16, none⟩ = some (.int .i64 hh2) := (q247'.below l).cell 16 rfl; have cu3_ : W.cell? ⟨gl, 17, none⟩ = some (.slice (some ⟨(gg_ 7), 0, none⟩) (2) ((cc_ 7))) := (q247'.below l).cell 17 rfl; have cu4_ : W.cell? ⟨gl, 18, none⟩ = some (.slice (some ⟨(gg_ 8), 0, none⟩) (2) ((cc_ 8))) := (q247'.below l).cell 18 rfl; have cu5_ : W.cell? ⟨gl, 19, none⟩ = some (.int .i64 sl2) := (q247'.below l).cell 19 rfl; have cu6_ : W.cell? ⟨gl, 20, none⟩ = some (.bool false) := (q247'.below l).cell 20 rfl; exact opv rfl rfl (by simp [go_sem, i.e 36 (m 2 rfl), cu0_, cu1_, cu2_, cu3_, cu4_, cu5_, cu6_]) rfl,
  fun f s W l m p q r i => opDo_call (args := #[.agg #[.int .i64 tb2, .slice (some ⟨(gg_ 6), 0, none⟩) (4) ((cc_ 6)), .int .i64 hh2, .slice (some ⟨(gg_ 7), 0, none⟩) (2) ((cc_ 7)), .slice (some ⟨(gg_ 8), 0, none⟩) (2) ((cc_ 8)), .int .i64 sl2, .bool false]]) rfl rfl (by simp [go_sem, i.e 37 (m 3 rfl)]) (pubBlank_any _ _ _ _ _ _ (⟨tb2, [lg2, wd2, lg2, wd2], hh2, [fp2, fp2], [fp2, fq2], sl2, false⟩ : Bl) W ((q254'.below l)).ii ((q255'.below l)).ii ((q256'.below l)).ii (show 4 ≤ 1000 by decide) (show 2 ≤ 1000 by decide) (show 2 ≤ 1000 by decide)) ((fun e W' h => by obtain ⟨v, e1, h1, h2⟩ := h; rw [hbb2] at h1; exact ⟨_, e1, h2, h1.low (Nat.zero_le _)⟩)),
  fun f s W l m p q r i => by obtain ⟨g259', c262', g260', c263', g261', c264', d4, ⟨q265', q267', q266'⟩, ⟨q268', q270', q269'⟩, ⟨q271', q273', q272'⟩⟩ := (m 4 rfl); exact opDo_call (args := #[.agg #[.int .i64 bb2.tab, .slice (some ⟨g259', 0, none⟩) (bb2.panels.length) (c262'), .int .i64 bb2.height, .slice (some ⟨g260', 0, none⟩) (bb2.top.length) (c263'), .slice (some ⟨g261', 0, none⟩) (bb2.bottom.length) (c264'), .int .i64 bb2.slot, .bool bb2.isOpen]]) rfl rfl (by simp [go_sem, i.e 38 d4]) (scores_any _ bb2 W ⟨_, _, _, _, _, _, _, _, _, rfl, q265', q268', q271'⟩) ((fun e W' h => by obtain ⟨a, n, c, a', n', c', e1, h1, h2, h3⟩ := h; rw [hck2] at e1; exact ⟨_, e1, h3, ⟨_, _, rfl, is4_of h1 ((if_pos hck2).trans hsc2) hln2, trivial⟩⟩)),
  fun f s W l m p q r i => opv (v := (f 5)) rfl rfl (by simp [go_sem, (i.at' 39 rfl : r.tmps[39]?.getD undef = f 5)] <;> rfl) (m 5 rfl),
  fun f s W l m p q r i => by obtain ⟨x6_0, x6_1, d6, p6_0, p6_1⟩ := (m 6 rfl); exact opv (v := x6_0) rfl rfl (by simp [go_sem, i.e 33 d6]) p6_0,
  fun f s W l m p q r i => by obtain ⟨x6_0, x6_1, d6, p6_0, p6_1⟩ := (m 6 rfl); exact opv (v := x6_1) rfl rfl (by simp [go_sem, i.e 33 d6]) p6_1,
  fun f s W l m p q r i => by obtain ⟨x6_0, x6_1, d6, p6_0, p6_1⟩ := (m 6 rfl); exact opv rfl rfl (by simp [go_sem, i.e 33 d6]) rfl,
  fun f s W l m p q r i => opv (v := (f 7)) rfl rfl (by simp [go_sem, (i.at' 40 rfl : r.tmps[40]?.getD undef = f 7)] <;> rfl) (m 7 rfl),
  fun f s W l m p q r i => opv (v := (f 8)) rfl rfl (by simp [go_sem, (i.at' 41 rfl : r.tmps[41]?.getD undef = f 8)] <;> rfl) (m 8 rfl),
  fun f s W l m p q r i => opv rfl rfl (by simp [go_sem, i.e 42 (m 9 rfl)]) rfl, trivial⟩ ?_
 intro f20 s20 W20 hB20 g20 hg20
 have fB20 := hB20.f fB19
 have z20 := hB20.below.size
 have b20_0 := hB20.b b19_0
 have b20_1 := hB20.b b19_1
 have q278' := (q247'.below hB20.below)
 have q279' := (q248'.below hB20.below)
 have q280' := (q249'.below hB20.below)
 have q281' := (q250'.below hB20.below)
 have q282' := (q251'.below hB20.below)
 have q283' := (q252'.below hB20.below)
 have q284' := (q253'.below hB20.below)
 have q285' := (q254'.below hB20.below)
 have q286' := (q255'.below hB20.below)
 have q287' := (q256'.below hB20.below)
 have q288' := (q257'.bw hB20)
 have q289' := (q258'.bw hB20)
 obtain ⟨b290', o291', c292', r20_10, q293'⟩ := hB20.is 10
 refine hK29 _ _ ?_
 have k20_2 := kt hg20 2 k19_2
 have k20_3 := kt hg20 3 k19_3
 have k20_7 := kt hg20 7 k19_7
 have k20_49 := kt hg20 49 k19_49
 have k20_51 := kt hg20 51 k19_51
 have k20_52 := kt hg20 52 k19_52
 have k20_8 := kt hg20 8 k19_8
 have k20_30 := kt hg20 30 k19_30
 have k20_9 := kt hg20 9 r20_10
 have k20_11 := kt hg20 11 (hB20.is 12)
 refine wp_seq_k fun K30 hK30 => ?_
 refine wp_seq_k fun K31 hK31 => ?_
 as_aux_lemma =>
 refine region_dk 7 [(43, 0), (44, 1), (45, 2), (46, 3), (47, 4), (48, 5), (49, 6)] [[], [0], [0, 1], [0, 1, 2], [0, 1, 2, 3], [0, 1, 2, 3, 4], [0, 1, 2, 3, 4, 5]] (rel [is (.int .i64 0),
   is (.bool false),
   is (.bool false),
   is (.slice (some ⟨b290', o291', none⟩) (4) (c292')),
   is (.int .i64 4),
   is (.bool false),
   is (.bool false)])
  ⟨is_k, is_k, is_k, is_k, is_k, is_k, is_k, trivial⟩
  ⟨fun f s W l m p q r i => opv rfl rfl (by simp [go_sem, i.e 11 k20_11]) rfl,
  fun f s W l m p q r i => opv rfl rfl (by simp [go_sem, i.e 43 (m 0 rfl)]) rfl,
  fun f s W l m p q r i => opv rfl rfl (by simp [go_sem, i.e 44 (m 1 rfl)]) rfl,
  fun f s W l m p q r i => osure rfl rfl (i.says (d := 45) rfl rfl (m 2 rfl)) (gv (by simp [go_sem, i.e 9 k20_9]) rfl),
  fun f s W l m p q r i => osure rfl rfl (i.says (d := 45) rfl rfl (m 2 rfl)) (gv (by simp [go_sem, i.e 46 (m 3 rfl)]) rfl),
  fun f s W l m p q r i => osure rfl rfl (i.says (d := 45) rfl rfl (m 2 rfl)) (gv (by simp [go_sem, i.e 47 (m 4 rfl)]) rfl),
  fun f s W l m p q r i => opk (c := false) rfl rfl (fun _ => by simp [go_sem, i.e 45 (m 2 rfl), i.e 48 (m 5 rfl)]) (fun h => absurd h (by decide)), trivial⟩ ?_
 intro f21 s21 W21 hB21 g21 hg21
 have fB21 := hB21.f fB20
 have z21 := hB21.below.size
 have b21_0 := hB21.b b20_0
 have b21_1 := hB21.b b20_1
 have q294' := (q278'.below hB21.below)
 have q295' := (q279'.below hB21.below)
 have q296' := (q280'.below hB21.below)
 have q297' := (q281'.below hB21.below)
 have q298' := (q282'.below hB21.below)
 have q299' := (q283'.below hB21.below)
 have q300' := (q284'.below hB21.below)
 have q301' := (q285'.below hB21.below)
 have q302' := (q286'.below hB21.below)
 have q303' := (q287'.below hB21.below)
 have q304' := (q288'.bw hB21)
 have q305' := (q289'.bw hB21)
 have q306' := (q293'.bw hB21)
 refine hK31 _ _ ?_
 have k21_2 := kt hg21 2 k20_2
 have k21_3 := kt hg21 3 k20_3
 have k21_7 := kt hg21 7 k20_7
 have k21_51 := kt hg21 51 k20_51
 have k21_52 := kt hg21 52 k20_52
 have k21_8 := kt hg21 8 k20_8
 have k21_30 := kt hg21 30 k20_30
 have k21_9 := kt hg21 9 k20_9
 have k21_11 := kt hg21 11 k20_11
 have k21_49 := kt hg21 49 (hB21.is 6)
 refine wp_cond_false ((fr_eval rfl).trans k21_49) ?_
 refine wp_skip ?_
 refine hK30 _ _ ?_
 as_aux_lemma =>
 refine region_dk 3 [(50, 0), (51, 1), (52, 2)] [[], [], [0, 1], [0, 1, 2]] (rel [is (.int .i64 2),
   is (.slice (some ⟨b290', o291', none⟩) (4) (c292')),
   is (.pointer (some ⟨(s4 1), 2, none⟩))])
  ⟨is_k, is_k, is_k, trivial⟩
  ⟨fun f s W l m p q r i => opv rfl rfl (by simp [go_sem, i.e 8 k21_8]) rfl,
  fun f s W l m p q r i => opv rfl rfl (by simp [go_sem, i.e 9 k21_9]) rfl,
  fun f s W l m p q r i => opv rfl rfl (by simp [go_sem, i.e 7 k21_7, i.e 50 (m 0 rfl)]) rfl, trivial⟩ ?_
 intro f22 s22 W22 hB22 g22 hg22
 have fB22 := hB22.f fB21
 have z22 := hB22.below.size
 have b22_0 := hB22.b b21_0
 have b22_1 := hB22.b b21_1
 have q307' := (q294'.below hB22.below)
 have q308' := (q295'.below hB22.below)
 have q309' := (q296'.below hB22.below)
 have q310' := (q297'.below hB22.below)
 have q311' := (q298'.below hB22.below)
 have q312' := (q299'.below hB22.below)
 have q313' := (q300'.below hB22.below)
 have q314' := (q301'.below hB22.below)
 have q315' := (q302'.below hB22.below)
 have q316' := (q303'.below hB22.below)
 have q317' := (q304'.bw hB22)
 have q318' := (q305'.bw hB22)
 have q319' := (q306'.bw hB22)
 have k22_2 := kt hg22 2 k21_2
 have k22_3 := kt hg22 3 k21_3
 have k22_7 := kt hg22 7 k21_7
 have k22_8 := kt hg22 8 k21_8
 have k22_30 := kt hg22 30 k21_30
 have k22_9 := kt hg22 9 k21_9
 have k22_11 := kt hg22 11 k21_11
 have k22_49 := kt hg22 49 k21_49
 have k22_51 := kt hg22 51 (hB22.is 1)
 have k22_52 := kt hg22 52 (hB22.is 2)
 obtain ⟨W23, hW23⟩ : ∃ W', W' = W22.setRow (s4 1) #[.slice (some ⟨b106', o107', none⟩) (4) (c108'), .slice (some ⟨b195', o196', none⟩) (4) (c197'), .slice (some ⟨b290', o291', none⟩) (4) (c292')] := ⟨_, rfl⟩
 refine tail_skip (o := _) rfl ⟨rfl, rfl⟩ (run_seg hW23 (fr_ev k22_52) (fr_ev k22_51) b22_1 rfl rfl rfl rfl) ?_
 obtain ⟨fB23, nb23, ot23, z23⟩ := seg_facts hW23 fB22 b22_1 (by omega)
 have q320' := Ii.keepX q317' (keepX_row hW23) (fun b o e => by cases e; exact ii_ne_cells q317' hl4_0 b22_1 (by intro j x; rcases j with _ | _ | _ | j <;> simp))
 have q321' := Ii.keepX q318' (keepX_row hW23) (fun b o e => by cases e; exact ii_ne_cells q318' hl4_1 b22_1 (by intro j x; rcases j with _ | _ | _ | j <;> simp))
 have q322' := Ii.keepX q319' (keepX_row hW23) (fun b o e => by cases e; exact ii_ne_cells q319' hl4_2 b22_1 (by intro j x; rcases j with _ | _ | _ | j <;> simp))
 clear hW23
 have b23_0 := ot23 _ _ (by omega) b22_0
 have q323' := q307'.other ot23 (ownN_ne (.inr ⟨_, rfl, q307'⟩) b22_1 (by decide) _ rfl) z23
 have q324' := q308'.other ot23 (own_ne q308' b22_1) z23
 have q325' := q309'.other ot23 (own_ne q309' b22_1) z23
 have q326' := q310'.other ot23 (own_ne q310' b22_1) z23
 have q327' := q311'.other ot23 (own_ne q311' b22_1) z23
 have q328' := q312'.other ot23 (own_ne q312' b22_1) z23
 have q329' := q313'.other ot23 (own_ne q313' b22_1) z23
 have q330' := q314'.other ot23 (own_ne q314' b22_1) z23
 have q331' := q315'.other ot23 (own_ne q315' b22_1) z23
 have q332' := q316'.other ot23 (own_ne q316' b22_1) z23
 refine wpOps_end ?_
 refine inBlock_normal ?_
 refine hK28 _ _ ?_
 as_aux_lemma =>
 refine region_dk 3 [(31, 0), (32, 1), (8, 2)] [[], [0], [0, 1]] (rel [is (.int .i64 2),
   is (.int .i64 3),
   is (.int .i64 3)])
  ⟨is_k, is_k, is_k, trivial⟩
  ⟨fun f s W l m p q r i => opv rfl rfl (by simp [go_sem, i.e 8 ((q 2 8 rfl rfl).trans k22_8)]) rfl,
  fun f s W l m p q r i => opv rfl rfl (by simp [go_sem, i.e 31 (m 0 rfl), IntWalk.i64_in (3) (by omega)]) rfl,
  fun f s W l m p q r i => opv rfl rfl (by simp [go_sem, i.e 32 (m 1 rfl)]) rfl, trivial⟩ ?_
 intro f24 s24 W24 hB24 g24 hg24
 have fB24 := hB24.f fB23
 have z24 := hB24.below.size
 have b24_0 := hB24.b b23_0
 have b24_1 := hB24.b nb23
 have q333' := (q323'.below hB24.below)
 have q334' := (q324'.below hB24.below)
 have q335' := (q325'.below hB24.below)
 have q336' := (q326'.below hB24.below)
 have q337' := (q327'.below hB24.below)
 have q338' := (q328'.below hB24.below)
 have q339' := (q329'.below hB24.below)
 have q340' := (q330'.below hB24.below)
 have q341' := (q331'.below hB24.below)
 have q342' := (q332'.below hB24.below)
 have q343' := (q320'.bw hB24)
 have q344' := (q321'.bw hB24)
 have q345' := (q322'.bw hB24)
 refine wpOps_end ?_
 have k24_2 := kt hg24 2 k22_2
 have k24_3 := kt hg24 3 k22_3
 have k24_7 := kt hg24 7 k22_7
 have k24_30 := kt hg24 30 k22_30
 have k24_9 := kt hg24 9 k22_9
 have k24_11 := kt hg24 11 k22_11
 have k24_49 := kt hg24 49 k22_49
 have k24_51 := kt hg24 51 k22_51
 have k24_52 := kt hg24 52 k22_52
 have k24_8 := kt hg24 8 (hB24.is 2)
 refine then_normal ?_
 rw [rounds_succ]
 refine wp_seq_k fun K33 hK33 => ?_
 refine wp_seq_k fun K34 hK34 => ?_
 as_aux_lemma =>
 refine region_dk 2 [(29, 0), (30, 1)] [[], [0]] (rel [is (.int .i64 3),
   is (.bool false)])
  ⟨is_k, is_k, trivial⟩
  ⟨fun f s W l m p q r i => opv rfl rfl (by simp [go_sem, i.e 8 k24_8]) rfl,
  fun f s W l m p q r i => opv rfl rfl (by simp [go_sem, i.e 29 (m 0 rfl)]) rfl, trivial⟩ ?_
 intro f25 s25 W25 hB25 g25 hg25
 have fB25 := hB25.f fB24
 have z25 := hB25.below.size
 have b25_0 := hB25.b b24_0
 have b25_1 := hB25.b b24_1
 have q346' := (q333'.below hB25.below)
 have q347' := (q334'.below hB25.below)
 have q348' := (q335'.below hB25.below)
 have q349' := (q336'.below hB25.below)
 have q350' := (q337'.below hB25.below)
 have q351' := (q338'.below hB25.below)
 have q352' := (q339'.below hB25.below)
 have q353' := (q340'.below hB25.below)
 have q354' := (q341'.below hB25.below)
 have q355' := (q342'.below hB25.below)
 have q356' := (q343'.bw hB25)
 have q357' := (q344'.bw hB25)
 have q358' := (q345'.bw hB25)
 refine hK34 _ _ ?_
 have k25_2 := kt hg25 2 k24_2
 have k25_3 := kt hg25 3 k24_3
 have k25_7 := kt hg25 7 k24_7
 have k25_9 := kt hg25 9 k24_9
 have k25_11 := kt hg25 11 k24_11
 have k25_49 := kt hg25 49 k24_49
 have k25_51 := kt hg25 51 k24_51
 have k25_52 := kt hg25 52 k24_52
 have k25_8 := kt hg25 8 k24_8
 have k25_30 := kt hg25 30 (hB25.is 1)
 refine wp_cond_false ((fr_eval rfl).trans k25_30) ?_
 refine wp_exit ?_
 refine then_exit ?_
 refine then_exit ?_
 refine inBlock_at ?_
 refine hK7 _ _ ?_
 refine wp_seq_k fun K36 hK36 => ?_
 have lt4_0 := ii_lt q356' hl4_0
 have lt4_1 := ii_lt q357' hl4_1
 have lt4_2 := ii_lt q358' hl4_2
 as_aux_lemma =>
 refine region_dk 2 [(53, 0), (12, 1)] [[], [], [0, 1]] (rel [is (.agg #[.int .i64 0, .int .i64 0, .int .i64 0, .int .i64 0, .int .i64 0, .int .i64 0, .int .i64 0, .int .i64 0, .int .i64 0]),
   bx 1 #[.int .i64 0, .int .i64 0, .int .i64 0, .int .i64 0, .int .i64 0, .int .i64 0, .int .i64 0, .int .i64 0, .int .i64 0] 60])
  ⟨is_k, bx_k, trivial⟩
  ⟨fun f s W l m p q r i => opv rfl rfl (by simp [go_sem]) rfl,
  fun f s W l m p q r i => opb rfl rfl (by simp [go_sem]), trivial⟩ ?_
 intro f26 s26 W26 hB26 g26 hg26
 have fB26 := hB26.f fB25
 have z26 := hB26.below.size
 have b26_0 := hB26.b b25_0
 have b26_1 := hB26.b b25_1
 have q359' := (q356'.bw hB26)
 have q360' := (q357'.bw hB26)
 have q361' := (q358'.bw hB26)
 obtain ⟨r26_1, br26_1⟩ := hB26.is 1
 have lr26_1 := hB26.lr 1 br26_1
 have k26_2 := kt hg26 2 k25_2
 have k26_7 := kt hg26 7 k25_7
 have k26_53 := kt hg26 53 (hB26.is 0)
 have k26_12 := kt hg26 12 r26_1
 obtain ⟨W27, hW27⟩ : ∃ W', W' = W26.setRow (s26 1) #[.int .i64 0, .int .i64 0, .int .i64 0, .int .i64 0, .int .i64 0, .int .i64 0, .int .i64 0, .int .i64 0, .int .i64 0] := ⟨_, rfl⟩
 refine tail_skip (o := _) rfl ⟨rfl, rfl⟩ (run_seg hW27 (fr_ev k26_12) (fr_ev k26_53) br26_1 rfl rfl rfl rfl) ?_
 obtain ⟨fB27, nb27, ot27, z27⟩ := seg_facts hW27 fB26 br26_1 (by omega)
 have q362' := Ii.keepX q359' (keepX_row hW27) (fun b o e => by cases e; exact (by omega))
 have q363' := Ii.keepX q360' (keepX_row hW27) (fun b o e => by cases e; exact (by omega))
 have q364' := Ii.keepX q361' (keepX_row hW27) (fun b o e => by cases e; exact (by omega))
 clear hW27
 have b27_0 := ot27 _ _ (by omega) b26_0
 have b27_1 := ot27 _ _ (by omega) b26_1
 refine wpOps_end ?_
 refine hK36 _ _ ?_
 refine wp_seq_k fun K37 hK37 => ?_
 refine wp_seq_k fun K38 hK38 => ?_
 as_aux_lemma =>
 refine region_dk 1 [(13, 0)] [[]] (rel [is (.int .i64 0)])
  ⟨is_k, trivial⟩
  ⟨fun f s W l m p q r i => opv rfl rfl (by simp [go_sem]) rfl, trivial⟩ ?_
 intro f28 s28 W28 hB28 g28 hg28
 have fB28 := hB28.f fB27
 have z28 := hB28.below.size
 have b28_0 := hB28.b b27_0
 have b28_1 := hB28.b b27_1
 have b28_2 := hB28.b nb27
 have q365' := (q362'.bw hB28)
 have q366' := (q363'.bw hB28)
 have q367' := (q364'.bw hB28)
 refine hK38 _ _ ?_
 have k28_2 := kt hg28 2 k26_2
 have k28_7 := kt hg28 7 k26_7
 have k28_12 := kt hg28 12 k26_12
 have k28_13 := kt hg28 13 (hB28.is 0)
 refine wp_block ?_
 refine wp_loop_rounds 4 ?_
 rw [rounds_succ]
 refine wp_seq_k fun K39 hK39 => ?_
 refine wp_seq_k fun K40 hK40 => ?_
 as_aux_lemma =>
 refine region_dk 2 [(54, 0), (55, 1)] [[], [0]] (rel [is (.int .i64 0),
   is (.bool true)])
  ⟨is_k, is_k, trivial⟩
  ⟨fun f s W l m p q r i => opv rfl rfl (by simp [go_sem, i.e 13 k28_13]) rfl,
  fun f s W l m p q r i => opv rfl rfl (by simp [go_sem, i.e 54 (m 0 rfl)]) rfl, trivial⟩ ?_
 intro f29 s29 W29 hB29 g29 hg29
 have fB29 := hB29.f fB28
 have z29 := hB29.below.size
 have b29_0 := hB29.b b28_0
 have b29_1 := hB29.b b28_1
 have b29_2 := hB29.b b28_2
 have q368' := (q365'.bw hB29)
 have q369' := (q366'.bw hB29)
 have q370' := (q367'.bw hB29)
 refine hK40 _ _ ?_
 have k29_2 := kt hg29 2 k28_2
 have k29_7 := kt hg29 7 k28_7
 have k29_12 := kt hg29 12 k28_12
 have k29_13 := kt hg29 13 k28_13
 have k29_55 := kt hg29 55 (hB29.is 1)
 refine wp_cond_true ((fr_eval rfl).trans k29_55) ?_
 refine wp_skip ?_
 refine hK39 _ _ ?_
 refine wp_seq_k fun K42 hK42 => ?_
 refine wp_block ?_
 refine wp_seq_k fun K43 hK43 => ?_
 as_aux_lemma =>
 refine region_dk 1 [(14, 0)] [[]] (rel [is (.int .i64 0)])
  ⟨is_k, trivial⟩
  ⟨fun f s W l m p q r i => opv rfl rfl (by simp [go_sem]) rfl, trivial⟩ ?_
 intro f30 s30 W30 hB30 g30 hg30
 have fB30 := hB30.f fB29
 have z30 := hB30.below.size
 have b30_0 := hB30.b b29_0
 have b30_1 := hB30.b b29_1
 have b30_2 := hB30.b b29_2
 have q371' := (q368'.bw hB30)
 have q372' := (q369'.bw hB30)
 have q373' := (q370'.bw hB30)
 refine hK43 _ _ ?_
 have k30_2 := kt hg30 2 k29_2
 have k30_7 := kt hg30 7 k29_7
 have k30_12 := kt hg30 12 k29_12
 have k30_13 := kt hg30 13 k29_13
 have k30_55 := kt hg30 55 k29_55
 have k30_14 := kt hg30 14 (hB30.is 0)
 refine wp_block ?_
 refine wp_loop_rounds 4 ?_
 rw [rounds_succ]
 refine wp_seq_k fun K44 hK44 => ?_
 refine wp_seq_k fun K45 hK45 => ?_
 as_aux_lemma =>
 refine region_dk 2 [(58, 0), (59, 1)] [[], [0]] (rel [is (.int .i64 0),
   is (.bool true)])
  ⟨is_k, is_k, trivial⟩
  ⟨fun f s W l m p q r i => opv rfl rfl (by simp [go_sem, i.e 14 k30_14]) rfl,
  fun f s W l m p q r i => opv rfl rfl (by simp [go_sem, i.e 58 (m 0 rfl)]) rfl, trivial⟩ ?_
 intro f31 s31 W31 hB31 g31 hg31
 have fB31 := hB31.f fB30
 have z31 := hB31.below.size
 have b31_0 := hB31.b b30_0
 have b31_1 := hB31.b b30_1
 have b31_2 := hB31.b b30_2
 have q374' := (q371'.bw hB31)
 have q375' := (q372'.bw hB31)
 have q376' := (q373'.bw hB31)
 refine hK45 _ _ ?_
 have k31_2 := kt hg31 2 k30_2
 have k31_7 := kt hg31 7 k30_7
 have k31_12 := kt hg31 12 k30_12
 have k31_13 := kt hg31 13 k30_13
 have k31_55 := kt hg31 55 k30_55
 have k31_14 := kt hg31 14 k30_14
 have k31_59 := kt hg31 59 (hB31.is 1)
 refine wp_cond_true ((fr_eval rfl).trans k31_59) ?_
 refine wp_skip ?_
 refine hK44 _ _ ?_
 refine wp_seq_k fun K47 hK47 => ?_
 refine wp_block ?_
 refine wp_seq_k fun K48 hK48 => ?_
 as_aux_lemma =>
 refine region_dk 14 [(63, 0), (64, 1), (65, 2), (66, 3), (67, 4), (68, 5), (69, 6), (70, 7), (71, 8), (62, 9), (72, 10), (73, 11), (15, 12), (16, 13)] [[], [0], [0, 1], [0, 1, 2], [], [4], [4, 5], [0, 1, 2, 3, 4, 5, 6], [0, 1, 2, 3, 4, 5, 6, 7], [0, 1, 2, 3, 4, 5, 6, 7, 8], [0, 1, 2, 3, 4, 5, 6, 7, 8, 9], [0, 1, 2, 3, 4, 5, 6, 7, 8, 9], [0, 1, 2, 3, 4, 5, 6, 7, 8, 9, 10], [0, 1, 2, 3, 4, 5, 6, 7, 8, 9, 10, 11, 12]] (rel [is (.int .i64 0),
   is (.pointer (some ⟨(s4 1), 0, none⟩)),
   is (.slice (some ⟨b106', o107', none⟩) (4) (c108')),
   ab fun v W => OwI w.heap.size (xs0) 4 v W,
   is (.int .i64 0),
   is (.pointer (some ⟨(s4 1), 0, none⟩)),
   is (.slice (some ⟨b106', o107', none⟩) (4) (c108')),
   ab fun v W => OwI w.heap.size (xs0) 4 v W,
   is (.tuple #[.int .i64 n00, .int .i64 0]),
   is (.tuple #[.int .i64 n00, .int .i64 0]),
   is (.int .i64 n00),
   is (.int .i64 0),
   is (.int .i64 n00),
   is (.int .i64 0)])
  ⟨is_k, is_k, is_k, ab_k fun v W W' hb h => h.below hb, is_k, is_k, is_k, ab_k fun v W W' hb h => h.below hb, is_k, is_k, is_k, is_k, is_k, is_k, trivial⟩
  ⟨fun f s W l m p q r i => opv rfl rfl (by simp [go_sem, i.e 13 k31_13]) rfl,
  fun f s W l m p q r i => opv rfl rfl (by simp [go_sem, i.e 7 k31_7, i.e 63 (m 0 rfl)]) rfl,
  fun f s W l m p q r i => opv rfl rfl (by simp [go_sem, i.e 64 (m 1 rfl), cb b31_1 l 0]) rfl,
  fun f s W l m p q r i => by have u := below_trans fB31 l; exact opDo_call rfl rfl (by simp [go_sem, i.e 65 (m 2 rfl)]) (pubInts_own (some ⟨b106', o107', none⟩) c108' 4 xs0 W (q374'.below l (Nat.le_refl _)) (by decide) (by decide)) ((fun e W' h => by obtain ⟨v, e1, ⟨g_, c_, e2, h1⟩, h2⟩ := h; exact ⟨_, e1, h2, ⟨g_, c_, e2, h1.low u.size⟩⟩)),
  fun f s W l m p q r i => opv rfl rfl (by simp [go_sem, i.e 14 k31_14]) rfl,
  fun f s W l m p q r i => opv rfl rfl (by simp [go_sem, i.e 7 k31_7, i.e 67 (m 4 rfl)]) rfl,
  fun f s W l m p q r i => opv rfl rfl (by simp [go_sem, i.e 68 (m 5 rfl), cb b31_1 l 0]) rfl,
  fun f s W l m p q r i => by have u := below_trans fB31 l; exact opDo_call rfl rfl (by simp [go_sem, i.e 69 (m 6 rfl)]) (pubInts_own (some ⟨b106', o107', none⟩) c108' 4 xs0 W (q374'.below l (Nat.le_refl _)) (by decide) (by decide)) ((fun e W' h => by obtain ⟨v, e1, ⟨g_, c_, e2, h1⟩, h2⟩ := h; exact ⟨_, e1, h2, ⟨g_, c_, e2, h1.low u.size⟩⟩)),
  fun f s W l m p q r i => by obtain ⟨g377', c378', d3, q379'⟩ := (m 3 rfl); obtain ⟨g380', c381', d7, q382'⟩ := (m 7 rfl); exact opDo_call rfl rfl (by simp [go_sem, i.e 66 d3, i.e 70 d7]) (change_any (some ⟨g377', 0, none⟩) (some ⟨g380', 0, none⟩) 4 c378' 4 c381' xs0 xs0 W (hln0 ▸ q379'.ii) (hln0 ▸ q382'.ii) gx0 gx0 (by decide) (by decide) hs0 hs0 hcm0 hcm0) ((fun e W' h => by have h1 := h.1; rw [hn00] at h1; exact ⟨_, h1, h.2, rfl⟩)),
  fun f s W l m p q r i => opv rfl rfl (by simp [go_sem, i.e 71 (m 8 rfl)]) rfl,
  fun f s W l m p q r i => opv rfl rfl (by simp [go_sem, i.e 62 (m 9 rfl)]) rfl,
  fun f s W l m p q r i => opv rfl rfl (by simp [go_sem, i.e 62 (m 9 rfl)]) rfl,
  fun f s W l m p q r i => opv rfl rfl (by simp [go_sem, i.e 72 (m 10 rfl)]) rfl,
  fun f s W l m p q r i => opv rfl rfl (by simp [go_sem, i.e 73 (m 11 rfl)]) rfl, trivial⟩ ?_
 intro f32 s32 W32 hB32 g32 hg32
 have fB32 := hB32.f fB31
 have z32 := hB32.below.size
 have b32_0 := hB32.b b31_0
 have b32_1 := hB32.b b31_1
 have b32_2 := hB32.b b31_2
 have q383' := (q374'.bw hB32)
 have q384' := (q375'.bw hB32)
 have q385' := (q376'.bw hB32)
 refine hK48 _ _ ?_
 have k32_2 := kt hg32 2 k31_2
 have k32_7 := kt hg32 7 k31_7
 have k32_12 := kt hg32 12 k31_12
 have k32_13 := kt hg32 13 k31_13
 have k32_55 := kt hg32 55 k31_55
 have k32_14 := kt hg32 14 k31_14
 have k32_59 := kt hg32 59 k31_59
 have k32_15 := kt hg32 15 (hB32.is 12)
 have k32_16 := kt hg32 16 (hB32.is 13)
 refine wp_seq_k fun K49 hK49 => ?_
 refine wp_seq_k fun K50 hK50 => ?_
 as_aux_lemma =>
 refine region_dk 10 [(74, 0), (75, 1), (76, 2), (77, 3), (78, 4), (79, 5), (80, 6), (81, 7), (82, 8), (83, 9)] [[], [0], [0, 1], [0, 1, 2], [0, 1, 2, 3], [0, 1, 2, 3, 4], [0, 1, 2, 3, 4, 5], [0, 1, 2, 3, 4, 5, 6], [0, 1, 2, 3, 4, 5, 6, 7], [0, 1, 2, 3, 4, 5, 6, 7, 8]] (rel [is (.int .i64 0),
   is (.bool false),
   is (.bool false),
   is (.int .i64 n00),
   is (.bool false),
   is (.bool false),
   is (.bool false),
   is (.int .i64 n00),
   is (.bool false),
   is (.bool false)])
  ⟨is_k, is_k, is_k, is_k, is_k, is_k, is_k, is_k, is_k, is_k, trivial⟩
  ⟨fun f s W l m p q r i => opv rfl rfl (by simp [go_sem, i.e 16 k32_16]) rfl,
  fun f s W l m p q r i => opv rfl rfl (by simp [go_sem, i.e 74 (m 0 rfl)]) rfl,
  fun f s W l m p q r i => opv rfl rfl (by simp [go_sem, i.e 75 (m 1 rfl)]) rfl,
  fun f s W l m p q r i => osure rfl rfl (i.says (d := 76) rfl rfl (m 2 rfl)) (gv (by simp [go_sem, i.e 15 k32_15]) rfl),
  fun f s W l m p q r i => osure rfl rfl (i.says (d := 76) rfl rfl (m 2 rfl)) (gv (by simp [go_sem, i.e 77 (m 3 rfl), dn00_0]) rfl),
  fun f s W l m p q r i => opk (c := false) rfl rfl (fun _ => by simp [go_sem, i.e 76 (m 2 rfl), i.e 78 (m 4 rfl)]) (fun h => absurd h (by decide)),
  fun f s W l m p q r i => opv rfl rfl (by simp [go_sem, i.e 79 (m 5 rfl)]) rfl,
  fun f s W l m p q r i => osure rfl rfl (i.says (d := 80) rfl rfl (m 6 rfl)) (gv (by simp [go_sem, i.e 15 k32_15]) rfl),
  fun f s W l m p q r i => osure rfl rfl (i.says (d := 80) rfl rfl (m 6 rfl)) (gv (by simp [go_sem, i.e 81 (m 7 rfl), dn00_1]) rfl),
  fun f s W l m p q r i => opk (c := false) rfl rfl (fun _ => by simp [go_sem, i.e 80 (m 6 rfl), i.e 82 (m 8 rfl)]) (fun h => absurd h (by decide)), trivial⟩ ?_
 intro f33 s33 W33 hB33 g33 hg33
 have fB33 := hB33.f fB32
 have z33 := hB33.below.size
 have b33_0 := hB33.b b32_0
 have b33_1 := hB33.b b32_1
 have b33_2 := hB33.b b32_2
 have q386' := (q383'.bw hB33)
 have q387' := (q384'.bw hB33)
 have q388' := (q385'.bw hB33)
 refine hK50 _ _ ?_
 have k33_2 := kt hg33 2 k32_2
 have k33_7 := kt hg33 7 k32_7
 have k33_12 := kt hg33 12 k32_12
 have k33_13 := kt hg33 13 k32_13
 have k33_55 := kt hg33 55 k32_55
 have k33_14 := kt hg33 14 k32_14
 have k33_59 := kt hg33 59 k32_59
 have k33_15 := kt hg33 15 k32_15
 have k33_16 := kt hg33 16 k32_16
 have k33_83 := kt hg33 83 (hB33.is 9)
 refine wp_cond_false ((fr_eval rfl).trans k33_83) ?_
 refine wp_skip ?_
 refine hK49 _ _ ?_
 as_aux_lemma =>
 refine region_dk 5 [(84, 0), (85, 1), (86, 2), (87, 3), (88, 4)] [[], [], [], [0], [0, 1, 2, 3], [0, 1, 2, 3, 4]] (rel [is (.int .i64 0),
   is (.int .i64 0),
   is (.int .i64 n00),
   is (.pointer (some ⟨(s26 1), 0, none⟩)),
   is (.pointer (some ⟨(s26 1), 0, none⟩))])
  ⟨is_k, is_k, is_k, is_k, is_k, trivial⟩
  ⟨fun f s W l m p q r i => opv rfl rfl (by simp [go_sem, i.e 13 k33_13]) rfl,
  fun f s W l m p q r i => opv rfl rfl (by simp [go_sem, i.e 14 k33_14]) rfl,
  fun f s W l m p q r i => opv rfl rfl (by simp [go_sem, i.e 15 k33_15]) rfl,
  fun f s W l m p q r i => opv rfl rfl (by simp [go_sem, i.e 12 k33_12, i.e 84 (m 0 rfl)]) rfl,
  fun f s W l m p q r i => opv rfl rfl (by simp [go_sem, i.e 87 (m 3 rfl), i.e 85 (m 1 rfl)]) rfl, trivial⟩ ?_
 intro f34 s34 W34 hB34 g34 hg34
 have fB34 := hB34.f fB33
 have z34 := hB34.below.size
 have b34_0 := hB34.b b33_0
 have b34_1 := hB34.b b33_1
 have b34_2 := hB34.b b33_2
 have q389' := (q386'.bw hB34)
 have q390' := (q387'.bw hB34)
 have q391' := (q388'.bw hB34)
 have k34_2 := kt hg34 2 k33_2
 have k34_7 := kt hg34 7 k33_7
 have k34_12 := kt hg34 12 k33_12
 have k34_13 := kt hg34 13 k33_13
 have k34_55 := kt hg34 55 k33_55
 have k34_14 := kt hg34 14 k33_14
 have k34_59 := kt hg34 59 k33_59
 have k34_15 := kt hg34 15 k33_15
 have k34_16 := kt hg34 16 k33_16
 have k34_83 := kt hg34 83 k33_83
 have k34_86 := kt hg34 86 (hB34.is 2)
 have k34_88 := kt hg34 88 (hB34.is 4)
 obtain ⟨W35, hW35⟩ : ∃ W', W' = W34.setRow (s26 1) #[.int .i64 n00, .int .i64 0, .int .i64 0, .int .i64 0, .int .i64 0, .int .i64 0, .int .i64 0, .int .i64 0, .int .i64 0] := ⟨_, rfl⟩
 refine tail_skip (o := _) rfl ⟨rfl, rfl⟩ (run_seg hW35 (fr_ev k34_88) (fr_ev k34_86) b34_2 rfl rfl rfl rfl) ?_
 obtain ⟨fB35, nb35, ot35, z35⟩ := seg_facts hW35 fB34 b34_2 (by omega)
 have q392' := Ii.keepX q389' (keepX_row hW35) (fun b o e => by cases e; exact (by omega))
 have q393' := Ii.keepX q390' (keepX_row hW35) (fun b o e => by cases e; exact (by omega))
 have q394' := Ii.keepX q391' (keepX_row hW35) (fun b o e => by cases e; exact (by omega))
 clear hW35
 have b35_0 := ot35 _ _ (by omega) b34_0
 have b35_1 := ot35 _ _ (by omega) b34_1
 refine wpOps_end ?_
 refine inBlock_normal ?_
 refine hK47 _ _ ?_
 as_aux_lemma =>
 refine region_dk 3 [(60, 0), (61, 1), (14, 2)] [[], [0], [0, 1]] (rel [is (.int .i64 0),
   is (.int .i64 1),
   is (.int .i64 1)])
  ⟨is_k, is_k, is_k, trivial⟩
  ⟨fun f s W l m p q r i => opv rfl rfl (by simp [go_sem, i.e 14 ((q 2 14 rfl rfl).trans k34_14)]) rfl,
  fun f s W l m p q r i => opv rfl rfl (by simp [go_sem, i.e 60 (m 0 rfl), IntWalk.i64_in (1) (by omega)]) rfl,
  fun f s W l m p q r i => opv rfl rfl (by simp [go_sem, i.e 61 (m 1 rfl)]) rfl, trivial⟩ ?_
 intro f36 s36 W36 hB36 g36 hg36
 have fB36 := hB36.f fB35
 have z36 := hB36.below.size
 have b36_0 := hB36.b b35_0
 have b36_1 := hB36.b b35_1
 have b36_2 := hB36.b nb35
 have q395' := (q392'.bw hB36)
 have q396' := (q393'.bw hB36)
 have q397' := (q394'.bw hB36)
 refine wpOps_end ?_
 have k36_2 := kt hg36 2 k34_2
 have k36_7 := kt hg36 7 k34_7
 have k36_12 := kt hg36 12 k34_12
 have k36_13 := kt hg36 13 k34_13
 have k36_55 := kt hg36 55 k34_55
 have k36_59 := kt hg36 59 k34_59
 have k36_15 := kt hg36 15 k34_15
 have k36_16 := kt hg36 16 k34_16
 have k36_83 := kt hg36 83 k34_83
 have k36_86 := kt hg36 86 k34_86
 have k36_88 := kt hg36 88 k34_88
 have k36_14 := kt hg36 14 (hB36.is 2)
 refine then_normal ?_
 rw [rounds_succ]
 refine wp_seq_k fun K52 hK52 => ?_
 refine wp_seq_k fun K53 hK53 => ?_
 as_aux_lemma =>
 refine region_dk 2 [(58, 0), (59, 1)] [[], [0]] (rel [is (.int .i64 1),
   is (.bool true)])
  ⟨is_k, is_k, trivial⟩
  ⟨fun f s W l m p q r i => opv rfl rfl (by simp [go_sem, i.e 14 k36_14]) rfl,
  fun f s W l m p q r i => opv rfl rfl (by simp [go_sem, i.e 58 (m 0 rfl)]) rfl, trivial⟩ ?_
 intro f37 s37 W37 hB37 g37 hg37
 have fB37 := hB37.f fB36
 have z37 := hB37.below.size
 have b37_0 := hB37.b b36_0
 have b37_1 := hB37.b b36_1
 have b37_2 := hB37.b b36_2
 have q398' := (q395'.bw hB37)
 have q399' := (q396'.bw hB37)
 have q400' := (q397'.bw hB37)
 refine hK53 _ _ ?_
 have k37_2 := kt hg37 2 k36_2
 have k37_7 := kt hg37 7 k36_7
 have k37_12 := kt hg37 12 k36_12
 have k37_13 := kt hg37 13 k36_13
 have k37_55 := kt hg37 55 k36_55
 have k37_15 := kt hg37 15 k36_15
 have k37_16 := kt hg37 16 k36_16
 have k37_83 := kt hg37 83 k36_83
 have k37_86 := kt hg37 86 k36_86
 have k37_88 := kt hg37 88 k36_88
 have k37_14 := kt hg37 14 k36_14
 have k37_59 := kt hg37 59 (hB37.is 1)
 refine wp_cond_true ((fr_eval rfl).trans k37_59) ?_
 refine wp_skip ?_
 refine hK52 _ _ ?_
 refine wp_seq_k fun K55 hK55 => ?_
 refine wp_block ?_
 refine wp_seq_k fun K56 hK56 => ?_
 as_aux_lemma =>
 refine region_dk 14 [(63, 0), (64, 1), (65, 2), (66, 3), (67, 4), (68, 5), (69, 6), (70, 7), (71, 8), (62, 9), (72, 10), (73, 11), (15, 12), (16, 13)] [[], [0], [0, 1], [0, 1, 2], [], [4], [4, 5], [0, 1, 2, 3, 4, 5, 6], [0, 1, 2, 3, 4, 5, 6, 7], [0, 1, 2, 3, 4, 5, 6, 7, 8], [0, 1, 2, 3, 4, 5, 6, 7, 8, 9], [0, 1, 2, 3, 4, 5, 6, 7, 8, 9], [0, 1, 2, 3, 4, 5, 6, 7, 8, 9, 10], [0, 1, 2, 3, 4, 5, 6, 7, 8, 9, 10, 11, 12]] (rel [is (.int .i64 0),
   is (.pointer (some ⟨(s4 1), 0, none⟩)),
   is (.slice (some ⟨b106', o107', none⟩) (4) (c108')),
   ab fun v W => OwI w.heap.size (xs0) 4 v W,
   is (.int .i64 1),
   is (.pointer (some ⟨(s4 1), 1, none⟩)),
   is (.slice (some ⟨b195', o196', none⟩) (4) (c197')),
   ab fun v W => OwI w.heap.size (xs1) 4 v W,
   is (.tuple #[.int .i64 n01, .int .i64 0]),
   is (.tuple #[.int .i64 n01, .int .i64 0]),
   is (.int .i64 n01),
   is (.int .i64 0),
   is (.int .i64 n01),
   is (.int .i64 0)])
  ⟨is_k, is_k, is_k, ab_k fun v W W' hb h => h.below hb, is_k, is_k, is_k, ab_k fun v W W' hb h => h.below hb, is_k, is_k, is_k, is_k, is_k, is_k, trivial⟩
  ⟨fun f s W l m p q r i => opv rfl rfl (by simp [go_sem, i.e 13 k37_13]) rfl,
  fun f s W l m p q r i => opv rfl rfl (by simp [go_sem, i.e 7 k37_7, i.e 63 (m 0 rfl)]) rfl,
  fun f s W l m p q r i => opv rfl rfl (by simp [go_sem, i.e 64 (m 1 rfl), cb b37_1 l 0]) rfl,
  fun f s W l m p q r i => by have u := below_trans fB37 l; exact opDo_call rfl rfl (by simp [go_sem, i.e 65 (m 2 rfl)]) (pubInts_own (some ⟨b106', o107', none⟩) c108' 4 xs0 W (q398'.below l (Nat.le_refl _)) (by decide) (by decide)) ((fun e W' h => by obtain ⟨v, e1, ⟨g_, c_, e2, h1⟩, h2⟩ := h; exact ⟨_, e1, h2, ⟨g_, c_, e2, h1.low u.size⟩⟩)),
  fun f s W l m p q r i => opv rfl rfl (by simp [go_sem, i.e 14 k37_14]) rfl,
  fun f s W l m p q r i => opv rfl rfl (by simp [go_sem, i.e 7 k37_7, i.e 67 (m 4 rfl)]) rfl,
  fun f s W l m p q r i => opv rfl rfl (by simp [go_sem, i.e 68 (m 5 rfl), cb b37_1 l 1]) rfl,
  fun f s W l m p q r i => by have u := below_trans fB37 l; exact opDo_call rfl rfl (by simp [go_sem, i.e 69 (m 6 rfl)]) (pubInts_own (some ⟨b195', o196', none⟩) c197' 4 xs1 W (q399'.below l (Nat.le_refl _)) (by decide) (by decide)) ((fun e W' h => by obtain ⟨v, e1, ⟨g_, c_, e2, h1⟩, h2⟩ := h; exact ⟨_, e1, h2, ⟨g_, c_, e2, h1.low u.size⟩⟩)),
  fun f s W l m p q r i => by obtain ⟨g401', c402', d3, q403'⟩ := (m 3 rfl); obtain ⟨g404', c405', d7, q406'⟩ := (m 7 rfl); exact opDo_call rfl rfl (by simp [go_sem, i.e 66 d3, i.e 70 d7]) (change_any (some ⟨g401', 0, none⟩) (some ⟨g404', 0, none⟩) 4 c402' 4 c405' xs0 xs1 W (hln0 ▸ q403'.ii) (hln1 ▸ q406'.ii) gx0 gx1 (by decide) (by decide) hs0 hs1 hcm0 hcm1) ((fun e W' h => by have h1 := h.1; rw [hn01] at h1; exact ⟨_, h1, h.2, rfl⟩)),
  fun f s W l m p q r i => opv rfl rfl (by simp [go_sem, i.e 71 (m 8 rfl)]) rfl,
  fun f s W l m p q r i => opv rfl rfl (by simp [go_sem, i.e 62 (m 9 rfl)]) rfl,
  fun f s W l m p q r i => opv rfl rfl (by simp [go_sem, i.e 62 (m 9 rfl)]) rfl,
  fun f s W l m p q r i => opv rfl rfl (by simp [go_sem, i.e 72 (m 10 rfl)]) rfl,
  fun f s W l m p q r i => opv rfl rfl (by simp [go_sem, i.e 73 (m 11 rfl)]) rfl, trivial⟩ ?_
 intro f38 s38 W38 hB38 g38 hg38
 have fB38 := hB38.f fB37
 have z38 := hB38.below.size
 have b38_0 := hB38.b b37_0
 have b38_1 := hB38.b b37_1
 have b38_2 := hB38.b b37_2
 have q407' := (q398'.bw hB38)
 have q408' := (q399'.bw hB38)
 have q409' := (q400'.bw hB38)
 refine hK56 _ _ ?_
 have k38_2 := kt hg38 2 k37_2
 have k38_7 := kt hg38 7 k37_7
 have k38_12 := kt hg38 12 k37_12
 have k38_13 := kt hg38 13 k37_13
 have k38_55 := kt hg38 55 k37_55
 have k38_83 := kt hg38 83 k37_83
 have k38_86 := kt hg38 86 k37_86
 have k38_88 := kt hg38 88 k37_88
 have k38_14 := kt hg38 14 k37_14
 have k38_59 := kt hg38 59 k37_59
 have k38_15 := kt hg38 15 (hB38.is 12)
 have k38_16 := kt hg38 16 (hB38.is 13)
 refine wp_seq_k fun K57 hK57 => ?_
 refine wp_seq_k fun K58 hK58 => ?_
 as_aux_lemma =>
 refine region_dk 10 [(74, 0), (75, 1), (76, 2), (77, 3), (78, 4), (79, 5), (80, 6), (81, 7), (82, 8), (83, 9)] [[], [0], [0, 1], [0, 1, 2], [0, 1, 2, 3], [0, 1, 2, 3, 4], [0, 1, 2, 3, 4, 5], [0, 1, 2, 3, 4, 5, 6], [0, 1, 2, 3, 4, 5, 6, 7], [0, 1, 2, 3, 4, 5, 6, 7, 8]] (rel [is (.int .i64 0),
   is (.bool false),
   is (.bool false),
   is (.int .i64 n01),
   is (.bool false),
   is (.bool false),
   is (.bool false),
   is (.int .i64 n01),
   is (.bool false),
   is (.bool false)])
  ⟨is_k, is_k, is_k, is_k, is_k, is_k, is_k, is_k, is_k, is_k, trivial⟩
  ⟨fun f s W l m p q r i => opv rfl rfl (by simp [go_sem, i.e 16 k38_16]) rfl,
  fun f s W l m p q r i => opv rfl rfl (by simp [go_sem, i.e 74 (m 0 rfl)]) rfl,
  fun f s W l m p q r i => opv rfl rfl (by simp [go_sem, i.e 75 (m 1 rfl)]) rfl,
  fun f s W l m p q r i => osure rfl rfl (i.says (d := 76) rfl rfl (m 2 rfl)) (gv (by simp [go_sem, i.e 15 k38_15]) rfl),
  fun f s W l m p q r i => osure rfl rfl (i.says (d := 76) rfl rfl (m 2 rfl)) (gv (by simp [go_sem, i.e 77 (m 3 rfl), dn01_0]) rfl),
  fun f s W l m p q r i => opk (c := false) rfl rfl (fun _ => by simp [go_sem, i.e 76 (m 2 rfl), i.e 78 (m 4 rfl)]) (fun h => absurd h (by decide)),
  fun f s W l m p q r i => opv rfl rfl (by simp [go_sem, i.e 79 (m 5 rfl)]) rfl,
  fun f s W l m p q r i => osure rfl rfl (i.says (d := 80) rfl rfl (m 6 rfl)) (gv (by simp [go_sem, i.e 15 k38_15]) rfl),
  fun f s W l m p q r i => osure rfl rfl (i.says (d := 80) rfl rfl (m 6 rfl)) (gv (by simp [go_sem, i.e 81 (m 7 rfl), dn01_1]) rfl),
  fun f s W l m p q r i => opk (c := false) rfl rfl (fun _ => by simp [go_sem, i.e 80 (m 6 rfl), i.e 82 (m 8 rfl)]) (fun h => absurd h (by decide)), trivial⟩ ?_
 intro f39 s39 W39 hB39 g39 hg39
 have fB39 := hB39.f fB38
 have z39 := hB39.below.size
 have b39_0 := hB39.b b38_0
 have b39_1 := hB39.b b38_1
 have b39_2 := hB39.b b38_2
 have q410' := (q407'.bw hB39)
 have q411' := (q408'.bw hB39)
 have q412' := (q409'.bw hB39)
 refine hK58 _ _ ?_
 have k39_2 := kt hg39 2 k38_2
 have k39_7 := kt hg39 7 k38_7
 have k39_12 := kt hg39 12 k38_12
 have k39_13 := kt hg39 13 k38_13
 have k39_55 := kt hg39 55 k38_55
 have k39_86 := kt hg39 86 k38_86
 have k39_88 := kt hg39 88 k38_88
 have k39_14 := kt hg39 14 k38_14
 have k39_59 := kt hg39 59 k38_59
 have k39_15 := kt hg39 15 k38_15
 have k39_16 := kt hg39 16 k38_16
 have k39_83 := kt hg39 83 (hB39.is 9)
 refine wp_cond_false ((fr_eval rfl).trans k39_83) ?_
 refine wp_skip ?_
 refine hK57 _ _ ?_
 as_aux_lemma =>
 refine region_dk 5 [(84, 0), (85, 1), (86, 2), (87, 3), (88, 4)] [[], [], [], [0], [0, 1, 2, 3], [0, 1, 2, 3, 4]] (rel [is (.int .i64 0),
   is (.int .i64 1),
   is (.int .i64 n01),
   is (.pointer (some ⟨(s26 1), 0, none⟩)),
   is (.pointer (some ⟨(s26 1), 1, none⟩))])
  ⟨is_k, is_k, is_k, is_k, is_k, trivial⟩
  ⟨fun f s W l m p q r i => opv rfl rfl (by simp [go_sem, i.e 13 k39_13]) rfl,
  fun f s W l m p q r i => opv rfl rfl (by simp [go_sem, i.e 14 k39_14]) rfl,
  fun f s W l m p q r i => opv rfl rfl (by simp [go_sem, i.e 15 k39_15]) rfl,
  fun f s W l m p q r i => opv rfl rfl (by simp [go_sem, i.e 12 k39_12, i.e 84 (m 0 rfl)]) rfl,
  fun f s W l m p q r i => opv rfl rfl (by simp [go_sem, i.e 87 (m 3 rfl), i.e 85 (m 1 rfl)]) rfl, trivial⟩ ?_
 intro f40 s40 W40 hB40 g40 hg40
 have fB40 := hB40.f fB39
 have z40 := hB40.below.size
 have b40_0 := hB40.b b39_0
 have b40_1 := hB40.b b39_1
 have b40_2 := hB40.b b39_2
 have q413' := (q410'.bw hB40)
 have q414' := (q411'.bw hB40)
 have q415' := (q412'.bw hB40)
 have k40_2 := kt hg40 2 k39_2
 have k40_7 := kt hg40 7 k39_7
 have k40_12 := kt hg40 12 k39_12
 have k40_13 := kt hg40 13 k39_13
 have k40_55 := kt hg40 55 k39_55
 have k40_14 := kt hg40 14 k39_14
 have k40_59 := kt hg40 59 k39_59
 have k40_15 := kt hg40 15 k39_15
 have k40_16 := kt hg40 16 k39_16
 have k40_83 := kt hg40 83 k39_83
 have k40_86 := kt hg40 86 (hB40.is 2)
 have k40_88 := kt hg40 88 (hB40.is 4)
 obtain ⟨W41, hW41⟩ : ∃ W', W' = W40.setRow (s26 1) #[.int .i64 n00, .int .i64 n01, .int .i64 0, .int .i64 0, .int .i64 0, .int .i64 0, .int .i64 0, .int .i64 0, .int .i64 0] := ⟨_, rfl⟩
 refine tail_skip (o := _) rfl ⟨rfl, rfl⟩ (run_seg hW41 (fr_ev k40_88) (fr_ev k40_86) b40_2 rfl rfl rfl rfl) ?_
 obtain ⟨fB41, nb41, ot41, z41⟩ := seg_facts hW41 fB40 b40_2 (by omega)
 have q416' := Ii.keepX q413' (keepX_row hW41) (fun b o e => by cases e; exact (by omega))
 have q417' := Ii.keepX q414' (keepX_row hW41) (fun b o e => by cases e; exact (by omega))
 have q418' := Ii.keepX q415' (keepX_row hW41) (fun b o e => by cases e; exact (by omega))
 clear hW41
 have b41_0 := ot41 _ _ (by omega) b40_0
 have b41_1 := ot41 _ _ (by omega) b40_1
 refine wpOps_end ?_
 refine inBlock_normal ?_
 refine hK55 _ _ ?_
 as_aux_lemma =>
 refine region_dk 3 [(60, 0), (61, 1), (14, 2)] [[], [0], [0, 1]] (rel [is (.int .i64 1),
   is (.int .i64 2),
   is (.int .i64 2)])
  ⟨is_k, is_k, is_k, trivial⟩
  ⟨fun f s W l m p q r i => opv rfl rfl (by simp [go_sem, i.e 14 ((q 2 14 rfl rfl).trans k40_14)]) rfl,
  fun f s W l m p q r i => opv rfl rfl (by simp [go_sem, i.e 60 (m 0 rfl), IntWalk.i64_in (2) (by omega)]) rfl,
  fun f s W l m p q r i => opv rfl rfl (by simp [go_sem, i.e 61 (m 1 rfl)]) rfl, trivial⟩ ?_
 intro f42 s42 W42 hB42 g42 hg42
 have fB42 := hB42.f fB41
 have z42 := hB42.below.size
 have b42_0 := hB42.b b41_0
 have b42_1 := hB42.b b41_1
 have b42_2 := hB42.b nb41
 have q419' := (q416'.bw hB42)
 have q420' := (q417'.bw hB42)
 have q421' := (q418'.bw hB42)
 refine wpOps_end ?_
 have k42_2 := kt hg42 2 k40_2
 have k42_7 := kt hg42 7 k40_7
 have k42_12 := kt hg42 12 k40_12
 have k42_13 := kt hg42 13 k40_13
 have k42_55 := kt hg42 55 k40_55
 have k42_59 := kt hg42 59 k40_59
 have k42_15 := kt hg42 15 k40_15
 have k42_16 := kt hg42 16 k40_16
 have k42_83 := kt hg42 83 k40_83
 have k42_86 := kt hg42 86 k40_86
 have k42_88 := kt hg42 88 k40_88
 have k42_14 := kt hg42 14 (hB42.is 2)
 refine then_normal ?_
 rw [rounds_succ]
 refine wp_seq_k fun K60 hK60 => ?_
 refine wp_seq_k fun K61 hK61 => ?_
 as_aux_lemma =>
 refine region_dk 2 [(58, 0), (59, 1)] [[], [0]] (rel [is (.int .i64 2),
   is (.bool true)])
  ⟨is_k, is_k, trivial⟩
  ⟨fun f s W l m p q r i => opv rfl rfl (by simp [go_sem, i.e 14 k42_14]) rfl,
  fun f s W l m p q r i => opv rfl rfl (by simp [go_sem, i.e 58 (m 0 rfl)]) rfl, trivial⟩ ?_
 intro f43 s43 W43 hB43 g43 hg43
 have fB43 := hB43.f fB42
 have z43 := hB43.below.size
 have b43_0 := hB43.b b42_0
 have b43_1 := hB43.b b42_1
 have b43_2 := hB43.b b42_2
 have q422' := (q419'.bw hB43)
 have q423' := (q420'.bw hB43)
 have q424' := (q421'.bw hB43)
 refine hK61 _ _ ?_
 have k43_2 := kt hg43 2 k42_2
 have k43_7 := kt hg43 7 k42_7
 have k43_12 := kt hg43 12 k42_12
 have k43_13 := kt hg43 13 k42_13
 have k43_55 := kt hg43 55 k42_55
 have k43_15 := kt hg43 15 k42_15
 have k43_16 := kt hg43 16 k42_16
 have k43_83 := kt hg43 83 k42_83
 have k43_86 := kt hg43 86 k42_86
 have k43_88 := kt hg43 88 k42_88
 have k43_14 := kt hg43 14 k42_14
 have k43_59 := kt hg43 59 (hB43.is 1)
 refine wp_cond_true ((fr_eval rfl).trans k43_59) ?_
 refine wp_skip ?_
 refine hK60 _ _ ?_
 refine wp_seq_k fun K63 hK63 => ?_
 refine wp_block ?_
 refine wp_seq_k fun K64 hK64 => ?_
 as_aux_lemma =>
 refine region_dk 14 [(63, 0), (64, 1), (65, 2), (66, 3), (67, 4), (68, 5), (69, 6), (70, 7), (71, 8), (62, 9), (72, 10), (73, 11), (15, 12), (16, 13)] [[], [0], [0, 1], [0, 1, 2], [], [4], [4, 5], [0, 1, 2, 3, 4, 5, 6], [0, 1, 2, 3, 4, 5, 6, 7], [0, 1, 2, 3, 4, 5, 6, 7, 8], [0, 1, 2, 3, 4, 5, 6, 7, 8, 9], [0, 1, 2, 3, 4, 5, 6, 7, 8, 9], [0, 1, 2, 3, 4, 5, 6, 7, 8, 9, 10], [0, 1, 2, 3, 4, 5, 6, 7, 8, 9, 10, 11, 12]] (rel [is (.int .i64 0),
   is (.pointer (some ⟨(s4 1), 0, none⟩)),
   is (.slice (some ⟨b106', o107', none⟩) (4) (c108')),
   ab fun v W => OwI w.heap.size (xs0) 4 v W,
   is (.int .i64 2),
   is (.pointer (some ⟨(s4 1), 2, none⟩)),
   is (.slice (some ⟨b290', o291', none⟩) (4) (c292')),
   ab fun v W => OwI w.heap.size (xs2) 4 v W,
   is (.tuple #[.int .i64 n02, .int .i64 0]),
   is (.tuple #[.int .i64 n02, .int .i64 0]),
   is (.int .i64 n02),
   is (.int .i64 0),
   is (.int .i64 n02),
   is (.int .i64 0)])
  ⟨is_k, is_k, is_k, ab_k fun v W W' hb h => h.below hb, is_k, is_k, is_k, ab_k fun v W W' hb h => h.below hb, is_k, is_k, is_k, is_k, is_k, is_k, trivial⟩
  ⟨fun f s W l m p q r i => opv rfl rfl (by simp [go_sem, i.e 13 k43_13]) rfl,
  fun f s W l m p q r i => opv rfl rfl (by simp [go_sem, i.e 7 k43_7, i.e 63 (m 0 rfl)]) rfl,
  fun f s W l m p q r i => opv rfl rfl (by simp [go_sem, i.e 64 (m 1 rfl), cb b43_1 l 0]) rfl,
  fun f s W l m p q r i => by have u := below_trans fB43 l; exact opDo_call rfl rfl (by simp [go_sem, i.e 65 (m 2 rfl)]) (pubInts_own (some ⟨b106', o107', none⟩) c108' 4 xs0 W (q422'.below l (Nat.le_refl _)) (by decide) (by decide)) ((fun e W' h => by obtain ⟨v, e1, ⟨g_, c_, e2, h1⟩, h2⟩ := h; exact ⟨_, e1, h2, ⟨g_, c_, e2, h1.low u.size⟩⟩)),
  fun f s W l m p q r i => opv rfl rfl (by simp [go_sem, i.e 14 k43_14]) rfl,
  fun f s W l m p q r i => opv rfl rfl (by simp [go_sem, i.e 7 k43_7, i.e 67 (m 4 rfl)]) rfl,
  fun f s W l m p q r i => opv rfl rfl (by simp [go_sem, i.e 68 (m 5 rfl), cb b43_1 l 2]) rfl,
  fun f s W l m p q r i => by have u := below_trans fB43 l; exact opDo_call rfl rfl (by simp [go_sem, i.e 69 (m 6 rfl)]) (pubInts_own (some ⟨b290', o291', none⟩) c292' 4 xs2 W (q424'.below l (Nat.le_refl _)) (by decide) (by decide)) ((fun e W' h => by obtain ⟨v, e1, ⟨g_, c_, e2, h1⟩, h2⟩ := h; exact ⟨_, e1, h2, ⟨g_, c_, e2, h1.low u.size⟩⟩)),
  fun f s W l m p q r i => by obtain ⟨g425', c426', d3, q427'⟩ := (m 3 rfl); obtain ⟨g428', c429', d7, q430'⟩ := (m 7 rfl); exact opDo_call rfl rfl (by simp [go_sem, i.e 66 d3, i.e 70 d7]) (change_any (some ⟨g425', 0, none⟩) (some ⟨g428', 0, none⟩) 4 c426' 4 c429' xs0 xs2 W (hln0 ▸ q427'.ii) (hln2 ▸ q430'.ii) gx0 gx2 (by decide) (by decide) hs0 hs2 hcm0 hcm2) ((fun e W' h => by have h1 := h.1; rw [hn02] at h1; exact ⟨_, h1, h.2, rfl⟩)),
  fun f s W l m p q r i => opv rfl rfl (by simp [go_sem, i.e 71 (m 8 rfl)]) rfl,
  fun f s W l m p q r i => opv rfl rfl (by simp [go_sem, i.e 62 (m 9 rfl)]) rfl,
  fun f s W l m p q r i => opv rfl rfl (by simp [go_sem, i.e 62 (m 9 rfl)]) rfl,
  fun f s W l m p q r i => opv rfl rfl (by simp [go_sem, i.e 72 (m 10 rfl)]) rfl,
  fun f s W l m p q r i => opv rfl rfl (by simp [go_sem, i.e 73 (m 11 rfl)]) rfl, trivial⟩ ?_
 intro f44 s44 W44 hB44 g44 hg44
 have fB44 := hB44.f fB43
 have z44 := hB44.below.size
 have b44_0 := hB44.b b43_0
 have b44_1 := hB44.b b43_1
 have b44_2 := hB44.b b43_2
 have q431' := (q422'.bw hB44)
 have q432' := (q423'.bw hB44)
 have q433' := (q424'.bw hB44)
 refine hK64 _ _ ?_
 have k44_2 := kt hg44 2 k43_2
 have k44_7 := kt hg44 7 k43_7
 have k44_12 := kt hg44 12 k43_12
 have k44_13 := kt hg44 13 k43_13
 have k44_55 := kt hg44 55 k43_55
 have k44_83 := kt hg44 83 k43_83
 have k44_86 := kt hg44 86 k43_86
 have k44_88 := kt hg44 88 k43_88
 have k44_14 := kt hg44 14 k43_14
 have k44_59 := kt hg44 59 k43_59
 have k44_15 := kt hg44 15 (hB44.is 12)
 have k44_16 := kt hg44 16 (hB44.is 13)
 refine wp_seq_k fun K65 hK65 => ?_
 refine wp_seq_k fun K66 hK66 => ?_
 as_aux_lemma =>
 refine region_dk 10 [(74, 0), (75, 1), (76, 2), (77, 3), (78, 4), (79, 5), (80, 6), (81, 7), (82, 8), (83, 9)] [[], [0], [0, 1], [0, 1, 2], [0, 1, 2, 3], [0, 1, 2, 3, 4], [0, 1, 2, 3, 4, 5], [0, 1, 2, 3, 4, 5, 6], [0, 1, 2, 3, 4, 5, 6, 7], [0, 1, 2, 3, 4, 5, 6, 7, 8]] (rel [is (.int .i64 0),
   is (.bool false),
   is (.bool false),
   is (.int .i64 n02),
   is (.bool false),
   is (.bool false),
   is (.bool false),
   is (.int .i64 n02),
   is (.bool false),
   is (.bool false)])
  ⟨is_k, is_k, is_k, is_k, is_k, is_k, is_k, is_k, is_k, is_k, trivial⟩
  ⟨fun f s W l m p q r i => opv rfl rfl (by simp [go_sem, i.e 16 k44_16]) rfl,
  fun f s W l m p q r i => opv rfl rfl (by simp [go_sem, i.e 74 (m 0 rfl)]) rfl,
  fun f s W l m p q r i => opv rfl rfl (by simp [go_sem, i.e 75 (m 1 rfl)]) rfl,
  fun f s W l m p q r i => osure rfl rfl (i.says (d := 76) rfl rfl (m 2 rfl)) (gv (by simp [go_sem, i.e 15 k44_15]) rfl),
  fun f s W l m p q r i => osure rfl rfl (i.says (d := 76) rfl rfl (m 2 rfl)) (gv (by simp [go_sem, i.e 77 (m 3 rfl), dn02_0]) rfl),
  fun f s W l m p q r i => opk (c := false) rfl rfl (fun _ => by simp [go_sem, i.e 76 (m 2 rfl), i.e 78 (m 4 rfl)]) (fun h => absurd h (by decide)),
  fun f s W l m p q r i => opv rfl rfl (by simp [go_sem, i.e 79 (m 5 rfl)]) rfl,
  fun f s W l m p q r i => osure rfl rfl (i.says (d := 80) rfl rfl (m 6 rfl)) (gv (by simp [go_sem, i.e 15 k44_15]) rfl),
  fun f s W l m p q r i => osure rfl rfl (i.says (d := 80) rfl rfl (m 6 rfl)) (gv (by simp [go_sem, i.e 81 (m 7 rfl), dn02_1]) rfl),
  fun f s W l m p q r i => opk (c := false) rfl rfl (fun _ => by simp [go_sem, i.e 80 (m 6 rfl), i.e 82 (m 8 rfl)]) (fun h => absurd h (by decide)), trivial⟩ ?_
 intro f45 s45 W45 hB45 g45 hg45
 have fB45 := hB45.f fB44
 have z45 := hB45.below.size
 have b45_0 := hB45.b b44_0
 have b45_1 := hB45.b b44_1
 have b45_2 := hB45.b b44_2
 have q434' := (q431'.bw hB45)
 have q435' := (q432'.bw hB45)
 have q436' := (q433'.bw hB45)
 refine hK66 _ _ ?_
 have k45_2 := kt hg45 2 k44_2
 have k45_7 := kt hg45 7 k44_7
 have k45_12 := kt hg45 12 k44_12
 have k45_13 := kt hg45 13 k44_13
 have k45_55 := kt hg45 55 k44_55
 have k45_86 := kt hg45 86 k44_86
 have k45_88 := kt hg45 88 k44_88
 have k45_14 := kt hg45 14 k44_14
 have k45_59 := kt hg45 59 k44_59
 have k45_15 := kt hg45 15 k44_15
 have k45_16 := kt hg45 16 k44_16
 have k45_83 := kt hg45 83 (hB45.is 9)
 refine wp_cond_false ((fr_eval rfl).trans k45_83) ?_
 refine wp_skip ?_
 refine hK65 _ _ ?_
 as_aux_lemma =>
 refine region_dk 5 [(84, 0), (85, 1), (86, 2), (87, 3), (88, 4)] [[], [], [], [0], [0, 1, 2, 3], [0, 1, 2, 3, 4]] (rel [is (.int .i64 0),
   is (.int .i64 2),
   is (.int .i64 n02),
   is (.pointer (some ⟨(s26 1), 0, none⟩)),
   is (.pointer (some ⟨(s26 1), 2, none⟩))])
  ⟨is_k, is_k, is_k, is_k, is_k, trivial⟩
  ⟨fun f s W l m p q r i => opv rfl rfl (by simp [go_sem, i.e 13 k45_13]) rfl,
  fun f s W l m p q r i => opv rfl rfl (by simp [go_sem, i.e 14 k45_14]) rfl,
  fun f s W l m p q r i => opv rfl rfl (by simp [go_sem, i.e 15 k45_15]) rfl,
  fun f s W l m p q r i => opv rfl rfl (by simp [go_sem, i.e 12 k45_12, i.e 84 (m 0 rfl)]) rfl,
  fun f s W l m p q r i => opv rfl rfl (by simp [go_sem, i.e 87 (m 3 rfl), i.e 85 (m 1 rfl)]) rfl, trivial⟩ ?_
 intro f46 s46 W46 hB46 g46 hg46
 have fB46 := hB46.f fB45
 have z46 := hB46.below.size
 have b46_0 := hB46.b b45_0
 have b46_1 := hB46.b b45_1
 have b46_2 := hB46.b b45_2
 have q437' := (q434'.bw hB46)
 have q438' := (q435'.bw hB46)
 have q439' := (q436'.bw hB46)
 have k46_2 := kt hg46 2 k45_2
 have k46_7 := kt hg46 7 k45_7
 have k46_12 := kt hg46 12 k45_12
 have k46_13 := kt hg46 13 k45_13
 have k46_55 := kt hg46 55 k45_55
 have k46_14 := kt hg46 14 k45_14
 have k46_59 := kt hg46 59 k45_59
 have k46_15 := kt hg46 15 k45_15
 have k46_16 := kt hg46 16 k45_16
 have k46_83 := kt hg46 83 k45_83
 have k46_86 := kt hg46 86 (hB46.is 2)
 have k46_88 := kt hg46 88 (hB46.is 4)
 obtain ⟨W47, hW47⟩ : ∃ W', W' = W46.setRow (s26 1) #[.int .i64 n00, .int .i64 n01, .int .i64 n02, .int .i64 0, .int .i64 0, .int .i64 0, .int .i64 0, .int .i64 0, .int .i64 0] := ⟨_, rfl⟩
 refine tail_skip (o := _) rfl ⟨rfl, rfl⟩ (run_seg hW47 (fr_ev k46_88) (fr_ev k46_86) b46_2 rfl rfl rfl rfl) ?_
 obtain ⟨fB47, nb47, ot47, z47⟩ := seg_facts hW47 fB46 b46_2 (by omega)
 have q440' := Ii.keepX q437' (keepX_row hW47) (fun b o e => by cases e; exact (by omega))
 have q441' := Ii.keepX q438' (keepX_row hW47) (fun b o e => by cases e; exact (by omega))
 have q442' := Ii.keepX q439' (keepX_row hW47) (fun b o e => by cases e; exact (by omega))
 clear hW47
 have b47_0 := ot47 _ _ (by omega) b46_0
 have b47_1 := ot47 _ _ (by omega) b46_1
 refine wpOps_end ?_
 refine inBlock_normal ?_
 refine hK63 _ _ ?_
 as_aux_lemma =>
 refine region_dk 3 [(60, 0), (61, 1), (14, 2)] [[], [0], [0, 1]] (rel [is (.int .i64 2),
   is (.int .i64 3),
   is (.int .i64 3)])
  ⟨is_k, is_k, is_k, trivial⟩
  ⟨fun f s W l m p q r i => opv rfl rfl (by simp [go_sem, i.e 14 ((q 2 14 rfl rfl).trans k46_14)]) rfl,
  fun f s W l m p q r i => opv rfl rfl (by simp [go_sem, i.e 60 (m 0 rfl), IntWalk.i64_in (3) (by omega)]) rfl,
  fun f s W l m p q r i => opv rfl rfl (by simp [go_sem, i.e 61 (m 1 rfl)]) rfl, trivial⟩ ?_
 intro f48 s48 W48 hB48 g48 hg48
 have fB48 := hB48.f fB47
 have z48 := hB48.below.size
 have b48_0 := hB48.b b47_0
 have b48_1 := hB48.b b47_1
 have b48_2 := hB48.b nb47
 have q443' := (q440'.bw hB48)
 have q444' := (q441'.bw hB48)
 have q445' := (q442'.bw hB48)
 refine wpOps_end ?_
 have k48_2 := kt hg48 2 k46_2
 have k48_7 := kt hg48 7 k46_7
 have k48_12 := kt hg48 12 k46_12
 have k48_13 := kt hg48 13 k46_13
 have k48_55 := kt hg48 55 k46_55
 have k48_59 := kt hg48 59 k46_59
 have k48_15 := kt hg48 15 k46_15
 have k48_16 := kt hg48 16 k46_16
 have k48_83 := kt hg48 83 k46_83
 have k48_86 := kt hg48 86 k46_86
 have k48_88 := kt hg48 88 k46_88
 have k48_14 := kt hg48 14 (hB48.is 2)
 refine then_normal ?_
 rw [rounds_succ]
 refine wp_seq_k fun K68 hK68 => ?_
 refine wp_seq_k fun K69 hK69 => ?_
 as_aux_lemma =>
 refine region_dk 2 [(58, 0), (59, 1)] [[], [0]] (rel [is (.int .i64 3),
   is (.bool false)])
  ⟨is_k, is_k, trivial⟩
  ⟨fun f s W l m p q r i => opv rfl rfl (by simp [go_sem, i.e 14 k48_14]) rfl,
  fun f s W l m p q r i => opv rfl rfl (by simp [go_sem, i.e 58 (m 0 rfl)]) rfl, trivial⟩ ?_
 intro f49 s49 W49 hB49 g49 hg49
 have fB49 := hB49.f fB48
 have z49 := hB49.below.size
 have b49_0 := hB49.b b48_0
 have b49_1 := hB49.b b48_1
 have b49_2 := hB49.b b48_2
 have q446' := (q443'.bw hB49)
 have q447' := (q444'.bw hB49)
 have q448' := (q445'.bw hB49)
 refine hK69 _ _ ?_
 have k49_2 := kt hg49 2 k48_2
 have k49_7 := kt hg49 7 k48_7
 have k49_12 := kt hg49 12 k48_12
 have k49_13 := kt hg49 13 k48_13
 have k49_55 := kt hg49 55 k48_55
 have k49_15 := kt hg49 15 k48_15
 have k49_16 := kt hg49 16 k48_16
 have k49_83 := kt hg49 83 k48_83
 have k49_86 := kt hg49 86 k48_86
 have k49_88 := kt hg49 88 k48_88
 have k49_14 := kt hg49 14 k48_14
 have k49_59 := kt hg49 59 (hB49.is 1)
 refine wp_cond_false ((fr_eval rfl).trans k49_59) ?_
 refine wp_exit ?_
 refine then_exit ?_
 refine then_exit ?_
 refine inBlock_at ?_
 refine inBlock_normal ?_
 refine hK42 _ _ ?_
 as_aux_lemma =>
 refine region_dk 3 [(56, 0), (57, 1), (13, 2)] [[], [0], [0, 1]] (rel [is (.int .i64 0),
   is (.int .i64 1),
   is (.int .i64 1)])
  ⟨is_k, is_k, is_k, trivial⟩
  ⟨fun f s W l m p q r i => opv rfl rfl (by simp [go_sem, i.e 13 ((q 2 13 rfl rfl).trans k49_13)]) rfl,
  fun f s W l m p q r i => opv rfl rfl (by simp [go_sem, i.e 56 (m 0 rfl), IntWalk.i64_in (1) (by omega)]) rfl,
  fun f s W l m p q r i => opv rfl rfl (by simp [go_sem, i.e 57 (m 1 rfl)]) rfl, trivial⟩ ?_
 intro f50 s50 W50 hB50 g50 hg50
 have fB50 := hB50.f fB49
 have z50 := hB50.below.size
 have b50_0 := hB50.b b49_0
 have b50_1 := hB50.b b49_1
 have b50_2 := hB50.b b49_2
 have q449' := (q446'.bw hB50)
 have q450' := (q447'.bw hB50)
 have q451' := (q448'.bw hB50)
 refine wpOps_end ?_
 have k50_2 := kt hg50 2 k49_2
 have k50_7 := kt hg50 7 k49_7
 have k50_12 := kt hg50 12 k49_12
 have k50_55 := kt hg50 55 k49_55
 have k50_15 := kt hg50 15 k49_15
 have k50_16 := kt hg50 16 k49_16
 have k50_83 := kt hg50 83 k49_83
 have k50_86 := kt hg50 86 k49_86
 have k50_88 := kt hg50 88 k49_88
 have k50_14 := kt hg50 14 k49_14
 have k50_59 := kt hg50 59 k49_59
 have k50_13 := kt hg50 13 (hB50.is 2)
 refine then_normal ?_
 rw [rounds_succ]
 refine wp_seq_k fun K71 hK71 => ?_
 refine wp_seq_k fun K72 hK72 => ?_
 as_aux_lemma =>
 refine region_dk 2 [(54, 0), (55, 1)] [[], [0]] (rel [is (.int .i64 1),
   is (.bool true)])
  ⟨is_k, is_k, trivial⟩
  ⟨fun f s W l m p q r i => opv rfl rfl (by simp [go_sem, i.e 13 k50_13]) rfl,
  fun f s W l m p q r i => opv rfl rfl (by simp [go_sem, i.e 54 (m 0 rfl)]) rfl, trivial⟩ ?_
 intro f51 s51 W51 hB51 g51 hg51
 have fB51 := hB51.f fB50
 have z51 := hB51.below.size
 have b51_0 := hB51.b b50_0
 have b51_1 := hB51.b b50_1
 have b51_2 := hB51.b b50_2
 have q452' := (q449'.bw hB51)
 have q453' := (q450'.bw hB51)
 have q454' := (q451'.bw hB51)
 refine hK72 _ _ ?_
 have k51_2 := kt hg51 2 k50_2
 have k51_7 := kt hg51 7 k50_7
 have k51_12 := kt hg51 12 k50_12
 have k51_15 := kt hg51 15 k50_15
 have k51_16 := kt hg51 16 k50_16
 have k51_83 := kt hg51 83 k50_83
 have k51_86 := kt hg51 86 k50_86
 have k51_88 := kt hg51 88 k50_88
 have k51_14 := kt hg51 14 k50_14
 have k51_59 := kt hg51 59 k50_59
 have k51_13 := kt hg51 13 k50_13
 have k51_55 := kt hg51 55 (hB51.is 1)
 refine wp_cond_true ((fr_eval rfl).trans k51_55) ?_
 refine wp_skip ?_
 refine hK71 _ _ ?_
 refine wp_seq_k fun K74 hK74 => ?_
 refine wp_block ?_
 refine wp_seq_k fun K75 hK75 => ?_
 as_aux_lemma =>
 refine region_dk 1 [(14, 0)] [[]] (rel [is (.int .i64 0)])
  ⟨is_k, trivial⟩
  ⟨fun f s W l m p q r i => opv rfl rfl (by simp [go_sem]) rfl, trivial⟩ ?_
 intro f52 s52 W52 hB52 g52 hg52
 have fB52 := hB52.f fB51
 have z52 := hB52.below.size
 have b52_0 := hB52.b b51_0
 have b52_1 := hB52.b b51_1
 have b52_2 := hB52.b b51_2
 have q455' := (q452'.bw hB52)
 have q456' := (q453'.bw hB52)
 have q457' := (q454'.bw hB52)
 refine hK75 _ _ ?_
 have k52_2 := kt hg52 2 k51_2
 have k52_7 := kt hg52 7 k51_7
 have k52_12 := kt hg52 12 k51_12
 have k52_15 := kt hg52 15 k51_15
 have k52_16 := kt hg52 16 k51_16
 have k52_83 := kt hg52 83 k51_83
 have k52_86 := kt hg52 86 k51_86
 have k52_88 := kt hg52 88 k51_88
 have k52_59 := kt hg52 59 k51_59
 have k52_13 := kt hg52 13 k51_13
 have k52_55 := kt hg52 55 k51_55
 have k52_14 := kt hg52 14 (hB52.is 0)
 refine wp_block ?_
 refine wp_loop_rounds 4 ?_
 rw [rounds_succ]
 refine wp_seq_k fun K76 hK76 => ?_
 refine wp_seq_k fun K77 hK77 => ?_
 as_aux_lemma =>
 refine region_dk 2 [(58, 0), (59, 1)] [[], [0]] (rel [is (.int .i64 0),
   is (.bool true)])
  ⟨is_k, is_k, trivial⟩
  ⟨fun f s W l m p q r i => opv rfl rfl (by simp [go_sem, i.e 14 k52_14]) rfl,
  fun f s W l m p q r i => opv rfl rfl (by simp [go_sem, i.e 58 (m 0 rfl)]) rfl, trivial⟩ ?_
 intro f53 s53 W53 hB53 g53 hg53
 have fB53 := hB53.f fB52
 have z53 := hB53.below.size
 have b53_0 := hB53.b b52_0
 have b53_1 := hB53.b b52_1
 have b53_2 := hB53.b b52_2
 have q458' := (q455'.bw hB53)
 have q459' := (q456'.bw hB53)
 have q460' := (q457'.bw hB53)
 refine hK77 _ _ ?_
 have k53_2 := kt hg53 2 k52_2
 have k53_7 := kt hg53 7 k52_7
 have k53_12 := kt hg53 12 k52_12
 have k53_15 := kt hg53 15 k52_15
 have k53_16 := kt hg53 16 k52_16
 have k53_83 := kt hg53 83 k52_83
 have k53_86 := kt hg53 86 k52_86
 have k53_88 := kt hg53 88 k52_88
 have k53_13 := kt hg53 13 k52_13
 have k53_55 := kt hg53 55 k52_55
 have k53_14 := kt hg53 14 k52_14
 have k53_59 := kt hg53 59 (hB53.is 1)
 refine wp_cond_true ((fr_eval rfl).trans k53_59) ?_
 refine wp_skip ?_
 refine hK76 _ _ ?_
 refine wp_seq_k fun K79 hK79 => ?_
 refine wp_block ?_
 refine wp_seq_k fun K80 hK80 => ?_
 as_aux_lemma =>
 refine region_dk 14 [(63, 0), (64, 1), (65, 2), (66, 3), (67, 4), (68, 5), (69, 6), (70, 7), (71, 8), (62, 9), (72, 10), (73, 11), (15, 12), (16, 13)] [[], [0], [0, 1], [0, 1, 2], [], [4], [4, 5], [0, 1, 2, 3, 4, 5, 6], [0, 1, 2, 3, 4, 5, 6, 7], [0, 1, 2, 3, 4, 5, 6, 7, 8], [0, 1, 2, 3, 4, 5, 6, 7, 8, 9], [0, 1, 2, 3, 4, 5, 6, 7, 8, 9], [0, 1, 2, 3, 4, 5, 6, 7, 8, 9, 10], [0, 1, 2, 3, 4, 5, 6, 7, 8, 9, 10, 11, 12]] (rel [is (.int .i64 1),
   is (.pointer (some ⟨(s4 1), 1, none⟩)),
   is (.slice (some ⟨b195', o196', none⟩) (4) (c197')),
   ab fun v W => OwI w.heap.size (xs1) 4 v W,
   is (.int .i64 0),
   is (.pointer (some ⟨(s4 1), 0, none⟩)),
   is (.slice (some ⟨b106', o107', none⟩) (4) (c108')),
   ab fun v W => OwI w.heap.size (xs0) 4 v W,
   is (.tuple #[.int .i64 n10, .int .i64 0]),
   is (.tuple #[.int .i64 n10, .int .i64 0]),
   is (.int .i64 n10),
   is (.int .i64 0),
   is (.int .i64 n10),
   is (.int .i64 0)])
  ⟨is_k, is_k, is_k, ab_k fun v W W' hb h => h.below hb, is_k, is_k, is_k, ab_k fun v W W' hb h => h.below hb, is_k, is_k, is_k, is_k, is_k, is_k, trivial⟩
  ⟨fun f s W l m p q r i => opv rfl rfl (by simp [go_sem, i.e 13 k53_13]) rfl,
  fun f s W l m p q r i => opv rfl rfl (by simp [go_sem, i.e 7 k53_7, i.e 63 (m 0 rfl)]) rfl,
  fun f s W l m p q r i => opv rfl rfl (by simp [go_sem, i.e 64 (m 1 rfl), cb b53_1 l 1]) rfl,
  fun f s W l m p q r i => by have u := below_trans fB53 l; exact opDo_call rfl rfl (by simp [go_sem, i.e 65 (m 2 rfl)]) (pubInts_own (some ⟨b195', o196', none⟩) c197' 4 xs1 W (q459'.below l (Nat.le_refl _)) (by decide) (by decide)) ((fun e W' h => by obtain ⟨v, e1, ⟨g_, c_, e2, h1⟩, h2⟩ := h; exact ⟨_, e1, h2, ⟨g_, c_, e2, h1.low u.size⟩⟩)),
  fun f s W l m p q r i => opv rfl rfl (by simp [go_sem, i.e 14 k53_14]) rfl,
  fun f s W l m p q r i => opv rfl rfl (by simp [go_sem, i.e 7 k53_7, i.e 67 (m 4 rfl)]) rfl,
  fun f s W l m p q r i => opv rfl rfl (by simp [go_sem, i.e 68 (m 5 rfl), cb b53_1 l 0]) rfl,
  fun f s W l m p q r i => by have u := below_trans fB53 l; exact opDo_call rfl rfl (by simp [go_sem, i.e 69 (m 6 rfl)]) (pubInts_own (some ⟨b106', o107', none⟩) c108' 4 xs0 W (q458'.below l (Nat.le_refl _)) (by decide) (by decide)) ((fun e W' h => by obtain ⟨v, e1, ⟨g_, c_, e2, h1⟩, h2⟩ := h; exact ⟨_, e1, h2, ⟨g_, c_, e2, h1.low u.size⟩⟩)),
  fun f s W l m p q r i => by obtain ⟨g461', c462', d3, q463'⟩ := (m 3 rfl); obtain ⟨g464', c465', d7, q466'⟩ := (m 7 rfl); exact opDo_call rfl rfl (by simp [go_sem, i.e 66 d3, i.e 70 d7]) (change_any (some ⟨g461', 0, none⟩) (some ⟨g464', 0, none⟩) 4 c462' 4 c465' xs1 xs0 W (hln1 ▸ q463'.ii) (hln0 ▸ q466'.ii) gx1 gx0 (by decide) (by decide) hs1 hs0 hcm1 hcm0) ((fun e W' h => by have h1 := h.1; rw [hn10] at h1; exact ⟨_, h1, h.2, rfl⟩)),
  fun f s W l m p q r i => opv rfl rfl (by simp [go_sem, i.e 71 (m 8 rfl)]) rfl,
  fun f s W l m p q r i => opv rfl rfl (by simp [go_sem, i.e 62 (m 9 rfl)]) rfl,
  fun f s W l m p q r i => opv rfl rfl (by simp [go_sem, i.e 62 (m 9 rfl)]) rfl,
  fun f s W l m p q r i => opv rfl rfl (by simp [go_sem, i.e 72 (m 10 rfl)]) rfl,
  fun f s W l m p q r i => opv rfl rfl (by simp [go_sem, i.e 73 (m 11 rfl)]) rfl, trivial⟩ ?_
 intro f54 s54 W54 hB54 g54 hg54
 have fB54 := hB54.f fB53
 have z54 := hB54.below.size
 have b54_0 := hB54.b b53_0
 have b54_1 := hB54.b b53_1
 have b54_2 := hB54.b b53_2
 have q467' := (q458'.bw hB54)
 have q468' := (q459'.bw hB54)
 have q469' := (q460'.bw hB54)
 refine hK80 _ _ ?_
 have k54_2 := kt hg54 2 k53_2
 have k54_7 := kt hg54 7 k53_7
 have k54_12 := kt hg54 12 k53_12
 have k54_83 := kt hg54 83 k53_83
 have k54_86 := kt hg54 86 k53_86
 have k54_88 := kt hg54 88 k53_88
 have k54_13 := kt hg54 13 k53_13
 have k54_55 := kt hg54 55 k53_55
 have k54_14 := kt hg54 14 k53_14
 have k54_59 := kt hg54 59 k53_59
 have k54_15 := kt hg54 15 (hB54.is 12)
 have k54_16 := kt hg54 16 (hB54.is 13)
 refine wp_seq_k fun K81 hK81 => ?_
 refine wp_seq_k fun K82 hK82 => ?_
 as_aux_lemma =>
 refine region_dk 10 [(74, 0), (75, 1), (76, 2), (77, 3), (78, 4), (79, 5), (80, 6), (81, 7), (82, 8), (83, 9)] [[], [0], [0, 1], [0, 1, 2], [0, 1, 2, 3], [0, 1, 2, 3, 4], [0, 1, 2, 3, 4, 5], [0, 1, 2, 3, 4, 5, 6], [0, 1, 2, 3, 4, 5, 6, 7], [0, 1, 2, 3, 4, 5, 6, 7, 8]] (rel [is (.int .i64 0),
   is (.bool false),
   is (.bool false),
   is (.int .i64 n10),
   is (.bool false),
   is (.bool false),
   is (.bool false),
   is (.int .i64 n10),
   is (.bool false),
   is (.bool false)])
  ⟨is_k, is_k, is_k, is_k, is_k, is_k, is_k, is_k, is_k, is_k, trivial⟩
  ⟨fun f s W l m p q r i => opv rfl rfl (by simp [go_sem, i.e 16 k54_16]) rfl,
  fun f s W l m p q r i => opv rfl rfl (by simp [go_sem, i.e 74 (m 0 rfl)]) rfl,
  fun f s W l m p q r i => opv rfl rfl (by simp [go_sem, i.e 75 (m 1 rfl)]) rfl,
  fun f s W l m p q r i => osure rfl rfl (i.says (d := 76) rfl rfl (m 2 rfl)) (gv (by simp [go_sem, i.e 15 k54_15]) rfl),
  fun f s W l m p q r i => osure rfl rfl (i.says (d := 76) rfl rfl (m 2 rfl)) (gv (by simp [go_sem, i.e 77 (m 3 rfl), dn10_0]) rfl),
  fun f s W l m p q r i => opk (c := false) rfl rfl (fun _ => by simp [go_sem, i.e 76 (m 2 rfl), i.e 78 (m 4 rfl)]) (fun h => absurd h (by decide)),
  fun f s W l m p q r i => opv rfl rfl (by simp [go_sem, i.e 79 (m 5 rfl)]) rfl,
  fun f s W l m p q r i => osure rfl rfl (i.says (d := 80) rfl rfl (m 6 rfl)) (gv (by simp [go_sem, i.e 15 k54_15]) rfl),
  fun f s W l m p q r i => osure rfl rfl (i.says (d := 80) rfl rfl (m 6 rfl)) (gv (by simp [go_sem, i.e 81 (m 7 rfl), dn10_1]) rfl),
  fun f s W l m p q r i => opk (c := false) rfl rfl (fun _ => by simp [go_sem, i.e 80 (m 6 rfl), i.e 82 (m 8 rfl)]) (fun h => absurd h (by decide)), trivial⟩ ?_
 intro f55 s55 W55 hB55 g55 hg55
 have fB55 := hB55.f fB54
 have z55 := hB55.below.size
 have b55_0 := hB55.b b54_0
 have b55_1 := hB55.b b54_1
 have b55_2 := hB55.b b54_2
 have q470' := (q467'.bw hB55)
 have q471' := (q468'.bw hB55)
 have q472' := (q469'.bw hB55)
 refine hK82 _ _ ?_
 have k55_2 := kt hg55 2 k54_2
 have k55_7 := kt hg55 7 k54_7
 have k55_12 := kt hg55 12 k54_12
 have k55_86 := kt hg55 86 k54_86
 have k55_88 := kt hg55 88 k54_88
 have k55_13 := kt hg55 13 k54_13
 have k55_55 := kt hg55 55 k54_55
 have k55_14 := kt hg55 14 k54_14
 have k55_59 := kt hg55 59 k54_59
 have k55_15 := kt hg55 15 k54_15
 have k55_16 := kt hg55 16 k54_16
 have k55_83 := kt hg55 83 (hB55.is 9)
 refine wp_cond_false ((fr_eval rfl).trans k55_83) ?_
 refine wp_skip ?_
 refine hK81 _ _ ?_
 as_aux_lemma =>
 refine region_dk 5 [(84, 0), (85, 1), (86, 2), (87, 3), (88, 4)] [[], [], [], [0], [0, 1, 2, 3], [0, 1, 2, 3, 4]] (rel [is (.int .i64 1),
   is (.int .i64 0),
   is (.int .i64 n10),
   is (.pointer (some ⟨(s26 1), 3, none⟩)),
   is (.pointer (some ⟨(s26 1), 3, none⟩))])
  ⟨is_k, is_k, is_k, is_k, is_k, trivial⟩
  ⟨fun f s W l m p q r i => opv rfl rfl (by simp [go_sem, i.e 13 k55_13]) rfl,
  fun f s W l m p q r i => opv rfl rfl (by simp [go_sem, i.e 14 k55_14]) rfl,
  fun f s W l m p q r i => opv rfl rfl (by simp [go_sem, i.e 15 k55_15]) rfl,
  fun f s W l m p q r i => opv rfl rfl (by simp [go_sem, i.e 12 k55_12, i.e 84 (m 0 rfl)]) rfl,
  fun f s W l m p q r i => opv rfl rfl (by simp [go_sem, i.e 87 (m 3 rfl), i.e 85 (m 1 rfl)]) rfl, trivial⟩ ?_
 intro f56 s56 W56 hB56 g56 hg56
 have fB56 := hB56.f fB55
 have z56 := hB56.below.size
 have b56_0 := hB56.b b55_0
 have b56_1 := hB56.b b55_1
 have b56_2 := hB56.b b55_2
 have q473' := (q470'.bw hB56)
 have q474' := (q471'.bw hB56)
 have q475' := (q472'.bw hB56)
 have k56_2 := kt hg56 2 k55_2
 have k56_7 := kt hg56 7 k55_7
 have k56_12 := kt hg56 12 k55_12
 have k56_13 := kt hg56 13 k55_13
 have k56_55 := kt hg56 55 k55_55
 have k56_14 := kt hg56 14 k55_14
 have k56_59 := kt hg56 59 k55_59
 have k56_15 := kt hg56 15 k55_15
 have k56_16 := kt hg56 16 k55_16
 have k56_83 := kt hg56 83 k55_83
 have k56_86 := kt hg56 86 (hB56.is 2)
 have k56_88 := kt hg56 88 (hB56.is 4)
 obtain ⟨W57, hW57⟩ : ∃ W', W' = W56.setRow (s26 1) #[.int .i64 n00, .int .i64 n01, .int .i64 n02, .int .i64 n10, .int .i64 0, .int .i64 0, .int .i64 0, .int .i64 0, .int .i64 0] := ⟨_, rfl⟩
 refine tail_skip (o := _) rfl ⟨rfl, rfl⟩ (run_seg hW57 (fr_ev k56_88) (fr_ev k56_86) b56_2 rfl rfl rfl rfl) ?_
 obtain ⟨fB57, nb57, ot57, z57⟩ := seg_facts hW57 fB56 b56_2 (by omega)
 have q476' := Ii.keepX q473' (keepX_row hW57) (fun b o e => by cases e; exact (by omega))
 have q477' := Ii.keepX q474' (keepX_row hW57) (fun b o e => by cases e; exact (by omega))
 have q478' := Ii.keepX q475' (keepX_row hW57) (fun b o e => by cases e; exact (by omega))
 clear hW57
 have b57_0 := ot57 _ _ (by omega) b56_0
 have b57_1 := ot57 _ _ (by omega) b56_1
 refine wpOps_end ?_
 refine inBlock_normal ?_
 refine hK79 _ _ ?_
 as_aux_lemma =>
 refine region_dk 3 [(60, 0), (61, 1), (14, 2)] [[], [0], [0, 1]] (rel [is (.int .i64 0),
   is (.int .i64 1),
   is (.int .i64 1)])
  ⟨is_k, is_k, is_k, trivial⟩
  ⟨fun f s W l m p q r i => opv rfl rfl (by simp [go_sem, i.e 14 ((q 2 14 rfl rfl).trans k56_14)]) rfl,
  fun f s W l m p q r i => opv rfl rfl (by simp [go_sem, i.e 60 (m 0 rfl), IntWalk.i64_in (1) (by omega)]) rfl,
  fun f s W l m p q r i => opv rfl rfl (by simp [go_sem, i.e 61 (m 1 rfl)]) rfl, trivial⟩ ?_
 intro f58 s58 W58 hB58 g58 hg58
 have fB58 := hB58.f fB57
 have z58 := hB58.below.size
 have b58_0 := hB58.b b57_0
 have b58_1 := hB58.b b57_1
 have b58_2 := hB58.b nb57
 have q479' := (q476'.bw hB58)
 have q480' := (q477'.bw hB58)
 have q481' := (q478'.bw hB58)
 refine wpOps_end ?_
 have k58_2 := kt hg58 2 k56_2
 have k58_7 := kt hg58 7 k56_7
 have k58_12 := kt hg58 12 k56_12
 have k58_13 := kt hg58 13 k56_13
 have k58_55 := kt hg58 55 k56_55
 have k58_59 := kt hg58 59 k56_59
 have k58_15 := kt hg58 15 k56_15
 have k58_16 := kt hg58 16 k56_16
 have k58_83 := kt hg58 83 k56_83
 have k58_86 := kt hg58 86 k56_86
 have k58_88 := kt hg58 88 k56_88
 have k58_14 := kt hg58 14 (hB58.is 2)
 refine then_normal ?_
 rw [rounds_succ]
 refine wp_seq_k fun K84 hK84 => ?_
 refine wp_seq_k fun K85 hK85 => ?_
 as_aux_lemma =>
 refine region_dk 2 [(58, 0), (59, 1)] [[], [0]] (rel [is (.int .i64 1),
   is (.bool true)])
  ⟨is_k, is_k, trivial⟩
  ⟨fun f s W l m p q r i => opv rfl rfl (by simp [go_sem, i.e 14 k58_14]) rfl,
  fun f s W l m p q r i => opv rfl rfl (by simp [go_sem, i.e 58 (m 0 rfl)]) rfl, trivial⟩ ?_
 intro f59 s59 W59 hB59 g59 hg59
 have fB59 := hB59.f fB58
 have z59 := hB59.below.size
 have b59_0 := hB59.b b58_0
 have b59_1 := hB59.b b58_1
 have b59_2 := hB59.b b58_2
 have q482' := (q479'.bw hB59)
 have q483' := (q480'.bw hB59)
 have q484' := (q481'.bw hB59)
 refine hK85 _ _ ?_
 have k59_2 := kt hg59 2 k58_2
 have k59_7 := kt hg59 7 k58_7
 have k59_12 := kt hg59 12 k58_12
 have k59_13 := kt hg59 13 k58_13
 have k59_55 := kt hg59 55 k58_55
 have k59_15 := kt hg59 15 k58_15
 have k59_16 := kt hg59 16 k58_16
 have k59_83 := kt hg59 83 k58_83
 have k59_86 := kt hg59 86 k58_86
 have k59_88 := kt hg59 88 k58_88
 have k59_14 := kt hg59 14 k58_14
 have k59_59 := kt hg59 59 (hB59.is 1)
 refine wp_cond_true ((fr_eval rfl).trans k59_59) ?_
 refine wp_skip ?_
 refine hK84 _ _ ?_
 refine wp_seq_k fun K87 hK87 => ?_
 refine wp_block ?_
 refine wp_seq_k fun K88 hK88 => ?_
 as_aux_lemma =>
 refine region_dk 14 [(63, 0), (64, 1), (65, 2), (66, 3), (67, 4), (68, 5), (69, 6), (70, 7), (71, 8), (62, 9), (72, 10), (73, 11), (15, 12), (16, 13)] [[], [0], [0, 1], [0, 1, 2], [], [4], [4, 5], [0, 1, 2, 3, 4, 5, 6], [0, 1, 2, 3, 4, 5, 6, 7], [0, 1, 2, 3, 4, 5, 6, 7, 8], [0, 1, 2, 3, 4, 5, 6, 7, 8, 9], [0, 1, 2, 3, 4, 5, 6, 7, 8, 9], [0, 1, 2, 3, 4, 5, 6, 7, 8, 9, 10], [0, 1, 2, 3, 4, 5, 6, 7, 8, 9, 10, 11, 12]] (rel [is (.int .i64 1),
   is (.pointer (some ⟨(s4 1), 1, none⟩)),
   is (.slice (some ⟨b195', o196', none⟩) (4) (c197')),
   ab fun v W => OwI w.heap.size (xs1) 4 v W,
   is (.int .i64 1),
   is (.pointer (some ⟨(s4 1), 1, none⟩)),
   is (.slice (some ⟨b195', o196', none⟩) (4) (c197')),
   ab fun v W => OwI w.heap.size (xs1) 4 v W,
   is (.tuple #[.int .i64 n11, .int .i64 0]),
   is (.tuple #[.int .i64 n11, .int .i64 0]),
   is (.int .i64 n11),
   is (.int .i64 0),
   is (.int .i64 n11),
   is (.int .i64 0)])
  ⟨is_k, is_k, is_k, ab_k fun v W W' hb h => h.below hb, is_k, is_k, is_k, ab_k fun v W W' hb h => h.below hb, is_k, is_k, is_k, is_k, is_k, is_k, trivial⟩
  ⟨fun f s W l m p q r i => opv rfl rfl (by simp [go_sem, i.e 13 k59_13]) rfl,
  fun f s W l m p q r i => opv rfl rfl (by simp [go_sem, i.e 7 k59_7, i.e 63 (m 0 rfl)]) rfl,
  fun f s W l m p q r i => opv rfl rfl (by simp [go_sem, i.e 64 (m 1 rfl), cb b59_1 l 1]) rfl,
  fun f s W l m p q r i => by have u := below_trans fB59 l; exact opDo_call rfl rfl (by simp [go_sem, i.e 65 (m 2 rfl)]) (pubInts_own (some ⟨b195', o196', none⟩) c197' 4 xs1 W (q483'.below l (Nat.le_refl _)) (by decide) (by decide)) ((fun e W' h => by obtain ⟨v, e1, ⟨g_, c_, e2, h1⟩, h2⟩ := h; exact ⟨_, e1, h2, ⟨g_, c_, e2, h1.low u.size⟩⟩)),
  fun f s W l m p q r i => opv rfl rfl (by simp [go_sem, i.e 14 k59_14]) rfl,
  fun f s W l m p q r i => opv rfl rfl (by simp [go_sem, i.e 7 k59_7, i.e 67 (m 4 rfl)]) rfl,
  fun f s W l m p q r i => opv rfl rfl (by simp [go_sem, i.e 68 (m 5 rfl), cb b59_1 l 1]) rfl,
  fun f s W l m p q r i => by have u := below_trans fB59 l; exact opDo_call rfl rfl (by simp [go_sem, i.e 69 (m 6 rfl)]) (pubInts_own (some ⟨b195', o196', none⟩) c197' 4 xs1 W (q483'.below l (Nat.le_refl _)) (by decide) (by decide)) ((fun e W' h => by obtain ⟨v, e1, ⟨g_, c_, e2, h1⟩, h2⟩ := h; exact ⟨_, e1, h2, ⟨g_, c_, e2, h1.low u.size⟩⟩)),
  fun f s W l m p q r i => by obtain ⟨g485', c486', d3, q487'⟩ := (m 3 rfl); obtain ⟨g488', c489', d7, q490'⟩ := (m 7 rfl); exact opDo_call rfl rfl (by simp [go_sem, i.e 66 d3, i.e 70 d7]) (change_any (some ⟨g485', 0, none⟩) (some ⟨g488', 0, none⟩) 4 c486' 4 c489' xs1 xs1 W (hln1 ▸ q487'.ii) (hln1 ▸ q490'.ii) gx1 gx1 (by decide) (by decide) hs1 hs1 hcm1 hcm1) ((fun e W' h => by have h1 := h.1; rw [hn11] at h1; exact ⟨_, h1, h.2, rfl⟩)),
  fun f s W l m p q r i => opv rfl rfl (by simp [go_sem, i.e 71 (m 8 rfl)]) rfl,
  fun f s W l m p q r i => opv rfl rfl (by simp [go_sem, i.e 62 (m 9 rfl)]) rfl,
  fun f s W l m p q r i => opv rfl rfl (by simp [go_sem, i.e 62 (m 9 rfl)]) rfl,
  fun f s W l m p q r i => opv rfl rfl (by simp [go_sem, i.e 72 (m 10 rfl)]) rfl,
  fun f s W l m p q r i => opv rfl rfl (by simp [go_sem, i.e 73 (m 11 rfl)]) rfl, trivial⟩ ?_
 intro f60 s60 W60 hB60 g60 hg60
 have fB60 := hB60.f fB59
 have z60 := hB60.below.size
 have b60_0 := hB60.b b59_0
 have b60_1 := hB60.b b59_1
 have b60_2 := hB60.b b59_2
 have q491' := (q482'.bw hB60)
 have q492' := (q483'.bw hB60)
 have q493' := (q484'.bw hB60)
 refine hK88 _ _ ?_
 have k60_2 := kt hg60 2 k59_2
 have k60_7 := kt hg60 7 k59_7
 have k60_12 := kt hg60 12 k59_12
 have k60_13 := kt hg60 13 k59_13
 have k60_55 := kt hg60 55 k59_55
 have k60_83 := kt hg60 83 k59_83
 have k60_86 := kt hg60 86 k59_86
 have k60_88 := kt hg60 88 k59_88
 have k60_14 := kt hg60 14 k59_14
 have k60_59 := kt hg60 59 k59_59
 have k60_15 := kt hg60 15 (hB60.is 12)
 have k60_16 := kt hg60 16 (hB60.is 13)
 refine wp_seq_k fun K89 hK89 => ?_
 refine wp_seq_k fun K90 hK90 => ?_
 as_aux_lemma =>
 refine region_dk 10 [(74, 0), (75, 1), (76, 2), (77, 3), (78, 4), (79, 5), (80, 6), (81, 7), (82, 8), (83, 9)] [[], [0], [0, 1], [0, 1, 2], [0, 1, 2, 3], [0, 1, 2, 3, 4], [0, 1, 2, 3, 4, 5], [0, 1, 2, 3, 4, 5, 6], [0, 1, 2, 3, 4, 5, 6, 7], [0, 1, 2, 3, 4, 5, 6, 7, 8]] (rel [is (.int .i64 0),
   is (.bool false),
   is (.bool false),
   is (.int .i64 n11),
   is (.bool false),
   is (.bool false),
   is (.bool false),
   is (.int .i64 n11),
   is (.bool false),
   is (.bool false)])
  ⟨is_k, is_k, is_k, is_k, is_k, is_k, is_k, is_k, is_k, is_k, trivial⟩
  ⟨fun f s W l m p q r i => opv rfl rfl (by simp [go_sem, i.e 16 k60_16]) rfl,
  fun f s W l m p q r i => opv rfl rfl (by simp [go_sem, i.e 74 (m 0 rfl)]) rfl,
  fun f s W l m p q r i => opv rfl rfl (by simp [go_sem, i.e 75 (m 1 rfl)]) rfl,
  fun f s W l m p q r i => osure rfl rfl (i.says (d := 76) rfl rfl (m 2 rfl)) (gv (by simp [go_sem, i.e 15 k60_15]) rfl),
  fun f s W l m p q r i => osure rfl rfl (i.says (d := 76) rfl rfl (m 2 rfl)) (gv (by simp [go_sem, i.e 77 (m 3 rfl), dn11_0]) rfl),
  fun f s W l m p q r i => opk (c := false) rfl rfl (fun _ => by simp [go_sem, i.e 76 (m 2 rfl), i.e 78 (m 4 rfl)]) (fun h => absurd h (by decide)),
  fun f s W l m p q r i => opv rfl rfl (by simp [go_sem, i.e 79 (m 5 rfl)]) rfl,
  fun f s W l m p q r i => osure rfl rfl (i.says (d := 80) rfl rfl (m 6 rfl)) (gv (by simp [go_sem, i.e 15 k60_15]) rfl),
  fun f s W l m p q r i => osure rfl rfl (i.says (d := 80) rfl rfl (m 6 rfl)) (gv (by simp [go_sem, i.e 81 (m 7 rfl), dn11_1]) rfl),
  fun f s W l m p q r i => opk (c := false) rfl rfl (fun _ => by simp [go_sem, i.e 80 (m 6 rfl), i.e 82 (m 8 rfl)]) (fun h => absurd h (by decide)), trivial⟩ ?_
 intro f61 s61 W61 hB61 g61 hg61
 have fB61 := hB61.f fB60
 have z61 := hB61.below.size
 have b61_0 := hB61.b b60_0
 have b61_1 := hB61.b b60_1
 have b61_2 := hB61.b b60_2
 have q494' := (q491'.bw hB61)
 have q495' := (q492'.bw hB61)
 have q496' := (q493'.bw hB61)
 refine hK90 _ _ ?_
 have k61_2 := kt hg61 2 k60_2
 have k61_7 := kt hg61 7 k60_7
 have k61_12 := kt hg61 12 k60_12
 have k61_13 := kt hg61 13 k60_13
 have k61_55 := kt hg61 55 k60_55
 have k61_86 := kt hg61 86 k60_86
 have k61_88 := kt hg61 88 k60_88
 have k61_14 := kt hg61 14 k60_14
 have k61_59 := kt hg61 59 k60_59
 have k61_15 := kt hg61 15 k60_15
 have k61_16 := kt hg61 16 k60_16
 have k61_83 := kt hg61 83 (hB61.is 9)
 refine wp_cond_false ((fr_eval rfl).trans k61_83) ?_
 refine wp_skip ?_
 refine hK89 _ _ ?_
 as_aux_lemma =>
 refine region_dk 5 [(84, 0), (85, 1), (86, 2), (87, 3), (88, 4)] [[], [], [], [0], [0, 1, 2, 3], [0, 1, 2, 3, 4]] (rel [is (.int .i64 1),
   is (.int .i64 1),
   is (.int .i64 n11),
   is (.pointer (some ⟨(s26 1), 3, none⟩)),
   is (.pointer (some ⟨(s26 1), 4, none⟩))])
  ⟨is_k, is_k, is_k, is_k, is_k, trivial⟩
  ⟨fun f s W l m p q r i => opv rfl rfl (by simp [go_sem, i.e 13 k61_13]) rfl,
  fun f s W l m p q r i => opv rfl rfl (by simp [go_sem, i.e 14 k61_14]) rfl,
  fun f s W l m p q r i => opv rfl rfl (by simp [go_sem, i.e 15 k61_15]) rfl,
  fun f s W l m p q r i => opv rfl rfl (by simp [go_sem, i.e 12 k61_12, i.e 84 (m 0 rfl)]) rfl,
  fun f s W l m p q r i => opv rfl rfl (by simp [go_sem, i.e 87 (m 3 rfl), i.e 85 (m 1 rfl)]) rfl, trivial⟩ ?_
 intro f62 s62 W62 hB62 g62 hg62
 have fB62 := hB62.f fB61
 have z62 := hB62.below.size
 have b62_0 := hB62.b b61_0
 have b62_1 := hB62.b b61_1
 have b62_2 := hB62.b b61_2
 have q497' := (q494'.bw hB62)
 have q498' := (q495'.bw hB62)
 have q499' := (q496'.bw hB62)
 have k62_2 := kt hg62 2 k61_2
 have k62_7 := kt hg62 7 k61_7
 have k62_12 := kt hg62 12 k61_12
 have k62_13 := kt hg62 13 k61_13
 have k62_55 := kt hg62 55 k61_55
 have k62_14 := kt hg62 14 k61_14
 have k62_59 := kt hg62 59 k61_59
 have k62_15 := kt hg62 15 k61_15
 have k62_16 := kt hg62 16 k61_16
 have k62_83 := kt hg62 83 k61_83
 have k62_86 := kt hg62 86 (hB62.is 2)
 have k62_88 := kt hg62 88 (hB62.is 4)
 obtain ⟨W63, hW63⟩ : ∃ W', W' = W62.setRow (s26 1) #[.int .i64 n00, .int .i64 n01, .int .i64 n02, .int .i64 n10, .int .i64 n11, .int .i64 0, .int .i64 0, .int .i64 0, .int .i64 0] := ⟨_, rfl⟩
 refine tail_skip (o := _) rfl ⟨rfl, rfl⟩ (run_seg hW63 (fr_ev k62_88) (fr_ev k62_86) b62_2 rfl rfl rfl rfl) ?_
 obtain ⟨fB63, nb63, ot63, z63⟩ := seg_facts hW63 fB62 b62_2 (by omega)
 have q500' := Ii.keepX q497' (keepX_row hW63) (fun b o e => by cases e; exact (by omega))
 have q501' := Ii.keepX q498' (keepX_row hW63) (fun b o e => by cases e; exact (by omega))
 have q502' := Ii.keepX q499' (keepX_row hW63) (fun b o e => by cases e; exact (by omega))
 clear hW63
 have b63_0 := ot63 _ _ (by omega) b62_0
 have b63_1 := ot63 _ _ (by omega) b62_1
 refine wpOps_end ?_
 refine inBlock_normal ?_
 refine hK87 _ _ ?_
 as_aux_lemma =>
 refine region_dk 3 [(60, 0), (61, 1), (14, 2)] [[], [0], [0, 1]] (rel [is (.int .i64 1),
   is (.int .i64 2),
   is (.int .i64 2)])
  ⟨is_k, is_k, is_k, trivial⟩
  ⟨fun f s W l m p q r i => opv rfl rfl (by simp [go_sem, i.e 14 ((q 2 14 rfl rfl).trans k62_14)]) rfl,
  fun f s W l m p q r i => opv rfl rfl (by simp [go_sem, i.e 60 (m 0 rfl), IntWalk.i64_in (2) (by omega)]) rfl,
  fun f s W l m p q r i => opv rfl rfl (by simp [go_sem, i.e 61 (m 1 rfl)]) rfl, trivial⟩ ?_
 intro f64 s64 W64 hB64 g64 hg64
 have fB64 := hB64.f fB63
 have z64 := hB64.below.size
 have b64_0 := hB64.b b63_0
 have b64_1 := hB64.b b63_1
 have b64_2 := hB64.b nb63
 have q503' := (q500'.bw hB64)
 have q504' := (q501'.bw hB64)
 have q505' := (q502'.bw hB64)
 refine wpOps_end ?_
 have k64_2 := kt hg64 2 k62_2
 have k64_7 := kt hg64 7 k62_7
 have k64_12 := kt hg64 12 k62_12
 have k64_13 := kt hg64 13 k62_13
 have k64_55 := kt hg64 55 k62_55
 have k64_59 := kt hg64 59 k62_59
 have k64_15 := kt hg64 15 k62_15
 have k64_16 := kt hg64 16 k62_16
 have k64_83 := kt hg64 83 k62_83
 have k64_86 := kt hg64 86 k62_86
 have k64_88 := kt hg64 88 k62_88
 have k64_14 := kt hg64 14 (hB64.is 2)
 refine then_normal ?_
 rw [rounds_succ]
 refine wp_seq_k fun K92 hK92 => ?_
 refine wp_seq_k fun K93 hK93 => ?_
 as_aux_lemma =>
 refine region_dk 2 [(58, 0), (59, 1)] [[], [0]] (rel [is (.int .i64 2),
   is (.bool true)])
  ⟨is_k, is_k, trivial⟩
  ⟨fun f s W l m p q r i => opv rfl rfl (by simp [go_sem, i.e 14 k64_14]) rfl,
  fun f s W l m p q r i => opv rfl rfl (by simp [go_sem, i.e 58 (m 0 rfl)]) rfl, trivial⟩ ?_
 intro f65 s65 W65 hB65 g65 hg65
 have fB65 := hB65.f fB64
 have z65 := hB65.below.size
 have b65_0 := hB65.b b64_0
 have b65_1 := hB65.b b64_1
 have b65_2 := hB65.b b64_2
 have q506' := (q503'.bw hB65)
 have q507' := (q504'.bw hB65)
 have q508' := (q505'.bw hB65)
 refine hK93 _ _ ?_
 have k65_2 := kt hg65 2 k64_2
 have k65_7 := kt hg65 7 k64_7
 have k65_12 := kt hg65 12 k64_12
 have k65_13 := kt hg65 13 k64_13
 have k65_55 := kt hg65 55 k64_55
 have k65_15 := kt hg65 15 k64_15
 have k65_16 := kt hg65 16 k64_16
 have k65_83 := kt hg65 83 k64_83
 have k65_86 := kt hg65 86 k64_86
 have k65_88 := kt hg65 88 k64_88
 have k65_14 := kt hg65 14 k64_14
 have k65_59 := kt hg65 59 (hB65.is 1)
 refine wp_cond_true ((fr_eval rfl).trans k65_59) ?_
 refine wp_skip ?_
 refine hK92 _ _ ?_
 refine wp_seq_k fun K95 hK95 => ?_
 refine wp_block ?_
 refine wp_seq_k fun K96 hK96 => ?_
 as_aux_lemma =>
 refine region_dk 14 [(63, 0), (64, 1), (65, 2), (66, 3), (67, 4), (68, 5), (69, 6), (70, 7), (71, 8), (62, 9), (72, 10), (73, 11), (15, 12), (16, 13)] [[], [0], [0, 1], [0, 1, 2], [], [4], [4, 5], [0, 1, 2, 3, 4, 5, 6], [0, 1, 2, 3, 4, 5, 6, 7], [0, 1, 2, 3, 4, 5, 6, 7, 8], [0, 1, 2, 3, 4, 5, 6, 7, 8, 9], [0, 1, 2, 3, 4, 5, 6, 7, 8, 9], [0, 1, 2, 3, 4, 5, 6, 7, 8, 9, 10], [0, 1, 2, 3, 4, 5, 6, 7, 8, 9, 10, 11, 12]] (rel [is (.int .i64 1),
   is (.pointer (some ⟨(s4 1), 1, none⟩)),
   is (.slice (some ⟨b195', o196', none⟩) (4) (c197')),
   ab fun v W => OwI w.heap.size (xs1) 4 v W,
   is (.int .i64 2),
   is (.pointer (some ⟨(s4 1), 2, none⟩)),
   is (.slice (some ⟨b290', o291', none⟩) (4) (c292')),
   ab fun v W => OwI w.heap.size (xs2) 4 v W,
   is (.tuple #[.int .i64 n12, .int .i64 0]),
   is (.tuple #[.int .i64 n12, .int .i64 0]),
   is (.int .i64 n12),
   is (.int .i64 0),
   is (.int .i64 n12),
   is (.int .i64 0)])
  ⟨is_k, is_k, is_k, ab_k fun v W W' hb h => h.below hb, is_k, is_k, is_k, ab_k fun v W W' hb h => h.below hb, is_k, is_k, is_k, is_k, is_k, is_k, trivial⟩
  ⟨fun f s W l m p q r i => opv rfl rfl (by simp [go_sem, i.e 13 k65_13]) rfl,
  fun f s W l m p q r i => opv rfl rfl (by simp [go_sem, i.e 7 k65_7, i.e 63 (m 0 rfl)]) rfl,
  fun f s W l m p q r i => opv rfl rfl (by simp [go_sem, i.e 64 (m 1 rfl), cb b65_1 l 1]) rfl,
  fun f s W l m p q r i => by have u := below_trans fB65 l; exact opDo_call rfl rfl (by simp [go_sem, i.e 65 (m 2 rfl)]) (pubInts_own (some ⟨b195', o196', none⟩) c197' 4 xs1 W (q507'.below l (Nat.le_refl _)) (by decide) (by decide)) ((fun e W' h => by obtain ⟨v, e1, ⟨g_, c_, e2, h1⟩, h2⟩ := h; exact ⟨_, e1, h2, ⟨g_, c_, e2, h1.low u.size⟩⟩)),
  fun f s W l m p q r i => opv rfl rfl (by simp [go_sem, i.e 14 k65_14]) rfl,
  fun f s W l m p q r i => opv rfl rfl (by simp [go_sem, i.e 7 k65_7, i.e 67 (m 4 rfl)]) rfl,
  fun f s W l m p q r i => opv rfl rfl (by simp [go_sem, i.e 68 (m 5 rfl), cb b65_1 l 2]) rfl,
  fun f s W l m p q r i => by have u := below_trans fB65 l; exact opDo_call rfl rfl (by simp [go_sem, i.e 69 (m 6 rfl)]) (pubInts_own (some ⟨b290', o291', none⟩) c292' 4 xs2 W (q508'.below l (Nat.le_refl _)) (by decide) (by decide)) ((fun e W' h => by obtain ⟨v, e1, ⟨g_, c_, e2, h1⟩, h2⟩ := h; exact ⟨_, e1, h2, ⟨g_, c_, e2, h1.low u.size⟩⟩)),
  fun f s W l m p q r i => by obtain ⟨g509', c510', d3, q511'⟩ := (m 3 rfl); obtain ⟨g512', c513', d7, q514'⟩ := (m 7 rfl); exact opDo_call rfl rfl (by simp [go_sem, i.e 66 d3, i.e 70 d7]) (change_any (some ⟨g509', 0, none⟩) (some ⟨g512', 0, none⟩) 4 c510' 4 c513' xs1 xs2 W (hln1 ▸ q511'.ii) (hln2 ▸ q514'.ii) gx1 gx2 (by decide) (by decide) hs1 hs2 hcm1 hcm2) ((fun e W' h => by have h1 := h.1; rw [hn12] at h1; exact ⟨_, h1, h.2, rfl⟩)),
  fun f s W l m p q r i => opv rfl rfl (by simp [go_sem, i.e 71 (m 8 rfl)]) rfl,
  fun f s W l m p q r i => opv rfl rfl (by simp [go_sem, i.e 62 (m 9 rfl)]) rfl,
  fun f s W l m p q r i => opv rfl rfl (by simp [go_sem, i.e 62 (m 9 rfl)]) rfl,
  fun f s W l m p q r i => opv rfl rfl (by simp [go_sem, i.e 72 (m 10 rfl)]) rfl,
  fun f s W l m p q r i => opv rfl rfl (by simp [go_sem, i.e 73 (m 11 rfl)]) rfl, trivial⟩ ?_
 intro f66 s66 W66 hB66 g66 hg66
 have fB66 := hB66.f fB65
 have z66 := hB66.below.size
 have b66_0 := hB66.b b65_0
 have b66_1 := hB66.b b65_1
 have b66_2 := hB66.b b65_2
 have q515' := (q506'.bw hB66)
 have q516' := (q507'.bw hB66)
 have q517' := (q508'.bw hB66)
 refine hK96 _ _ ?_
 have k66_2 := kt hg66 2 k65_2
 have k66_7 := kt hg66 7 k65_7
 have k66_12 := kt hg66 12 k65_12
 have k66_13 := kt hg66 13 k65_13
 have k66_55 := kt hg66 55 k65_55
 have k66_83 := kt hg66 83 k65_83
 have k66_86 := kt hg66 86 k65_86
 have k66_88 := kt hg66 88 k65_88
 have k66_14 := kt hg66 14 k65_14
 have k66_59 := kt hg66 59 k65_59
 have k66_15 := kt hg66 15 (hB66.is 12)
 have k66_16 := kt hg66 16 (hB66.is 13)
 refine wp_seq_k fun K97 hK97 => ?_
 refine wp_seq_k fun K98 hK98 => ?_
 as_aux_lemma =>
 refine region_dk 10 [(74, 0), (75, 1), (76, 2), (77, 3), (78, 4), (79, 5), (80, 6), (81, 7), (82, 8), (83, 9)] [[], [0], [0, 1], [0, 1, 2], [0, 1, 2, 3], [0, 1, 2, 3, 4], [0, 1, 2, 3, 4, 5], [0, 1, 2, 3, 4, 5, 6], [0, 1, 2, 3, 4, 5, 6, 7], [0, 1, 2, 3, 4, 5, 6, 7, 8]] (rel [is (.int .i64 0),
   is (.bool false),
   is (.bool false),
   is (.int .i64 n12),
   is (.bool false),
   is (.bool false),
   is (.bool false),
   is (.int .i64 n12),
   is (.bool false),
   is (.bool false)])
  ⟨is_k, is_k, is_k, is_k, is_k, is_k, is_k, is_k, is_k, is_k, trivial⟩
  ⟨fun f s W l m p q r i => opv rfl rfl (by simp [go_sem, i.e 16 k66_16]) rfl,
  fun f s W l m p q r i => opv rfl rfl (by simp [go_sem, i.e 74 (m 0 rfl)]) rfl,
  fun f s W l m p q r i => opv rfl rfl (by simp [go_sem, i.e 75 (m 1 rfl)]) rfl,
  fun f s W l m p q r i => osure rfl rfl (i.says (d := 76) rfl rfl (m 2 rfl)) (gv (by simp [go_sem, i.e 15 k66_15]) rfl),
  fun f s W l m p q r i => osure rfl rfl (i.says (d := 76) rfl rfl (m 2 rfl)) (gv (by simp [go_sem, i.e 77 (m 3 rfl), dn12_0]) rfl),
  fun f s W l m p q r i => opk (c := false) rfl rfl (fun _ => by simp [go_sem, i.e 76 (m 2 rfl), i.e 78 (m 4 rfl)]) (fun h => absurd h (by decide)),
  fun f s W l m p q r i => opv rfl rfl (by simp [go_sem, i.e 79 (m 5 rfl)]) rfl,
  fun f s W l m p q r i => osure rfl rfl (i.says (d := 80) rfl rfl (m 6 rfl)) (gv (by simp [go_sem, i.e 15 k66_15]) rfl),
  fun f s W l m p q r i => osure rfl rfl (i.says (d := 80) rfl rfl (m 6 rfl)) (gv (by simp [go_sem, i.e 81 (m 7 rfl), dn12_1]) rfl),
  fun f s W l m p q r i => opk (c := false) rfl rfl (fun _ => by simp [go_sem, i.e 80 (m 6 rfl), i.e 82 (m 8 rfl)]) (fun h => absurd h (by decide)), trivial⟩ ?_
 intro f67 s67 W67 hB67 g67 hg67
 have fB67 := hB67.f fB66
 have z67 := hB67.below.size
 have b67_0 := hB67.b b66_0
 have b67_1 := hB67.b b66_1
 have b67_2 := hB67.b b66_2
 have q518' := (q515'.bw hB67)
 have q519' := (q516'.bw hB67)
 have q520' := (q517'.bw hB67)
 refine hK98 _ _ ?_
 have k67_2 := kt hg67 2 k66_2
 have k67_7 := kt hg67 7 k66_7
 have k67_12 := kt hg67 12 k66_12
 have k67_13 := kt hg67 13 k66_13
 have k67_55 := kt hg67 55 k66_55
 have k67_86 := kt hg67 86 k66_86
 have k67_88 := kt hg67 88 k66_88
 have k67_14 := kt hg67 14 k66_14
 have k67_59 := kt hg67 59 k66_59
 have k67_15 := kt hg67 15 k66_15
 have k67_16 := kt hg67 16 k66_16
 have k67_83 := kt hg67 83 (hB67.is 9)
 refine wp_cond_false ((fr_eval rfl).trans k67_83) ?_
 refine wp_skip ?_
 refine hK97 _ _ ?_
 as_aux_lemma =>
 refine region_dk 5 [(84, 0), (85, 1), (86, 2), (87, 3), (88, 4)] [[], [], [], [0], [0, 1, 2, 3], [0, 1, 2, 3, 4]] (rel [is (.int .i64 1),
   is (.int .i64 2),
   is (.int .i64 n12),
   is (.pointer (some ⟨(s26 1), 3, none⟩)),
   is (.pointer (some ⟨(s26 1), 5, none⟩))])
  ⟨is_k, is_k, is_k, is_k, is_k, trivial⟩
  ⟨fun f s W l m p q r i => opv rfl rfl (by simp [go_sem, i.e 13 k67_13]) rfl,
  fun f s W l m p q r i => opv rfl rfl (by simp [go_sem, i.e 14 k67_14]) rfl,
  fun f s W l m p q r i => opv rfl rfl (by simp [go_sem, i.e 15 k67_15]) rfl,
  fun f s W l m p q r i => opv rfl rfl (by simp [go_sem, i.e 12 k67_12, i.e 84 (m 0 rfl)]) rfl,
  fun f s W l m p q r i => opv rfl rfl (by simp [go_sem, i.e 87 (m 3 rfl), i.e 85 (m 1 rfl)]) rfl, trivial⟩ ?_
 intro f68 s68 W68 hB68 g68 hg68
 have fB68 := hB68.f fB67
 have z68 := hB68.below.size
 have b68_0 := hB68.b b67_0
 have b68_1 := hB68.b b67_1
 have b68_2 := hB68.b b67_2
 have q521' := (q518'.bw hB68)
 have q522' := (q519'.bw hB68)
 have q523' := (q520'.bw hB68)
 have k68_2 := kt hg68 2 k67_2
 have k68_7 := kt hg68 7 k67_7
 have k68_12 := kt hg68 12 k67_12
 have k68_13 := kt hg68 13 k67_13
 have k68_55 := kt hg68 55 k67_55
 have k68_14 := kt hg68 14 k67_14
 have k68_59 := kt hg68 59 k67_59
 have k68_15 := kt hg68 15 k67_15
 have k68_16 := kt hg68 16 k67_16
 have k68_83 := kt hg68 83 k67_83
 have k68_86 := kt hg68 86 (hB68.is 2)
 have k68_88 := kt hg68 88 (hB68.is 4)
 obtain ⟨W69, hW69⟩ : ∃ W', W' = W68.setRow (s26 1) #[.int .i64 n00, .int .i64 n01, .int .i64 n02, .int .i64 n10, .int .i64 n11, .int .i64 n12, .int .i64 0, .int .i64 0, .int .i64 0] := ⟨_, rfl⟩
 refine tail_skip (o := _) rfl ⟨rfl, rfl⟩ (run_seg hW69 (fr_ev k68_88) (fr_ev k68_86) b68_2 rfl rfl rfl rfl) ?_
 obtain ⟨fB69, nb69, ot69, z69⟩ := seg_facts hW69 fB68 b68_2 (by omega)
 have q524' := Ii.keepX q521' (keepX_row hW69) (fun b o e => by cases e; exact (by omega))
 have q525' := Ii.keepX q522' (keepX_row hW69) (fun b o e => by cases e; exact (by omega))
 have q526' := Ii.keepX q523' (keepX_row hW69) (fun b o e => by cases e; exact (by omega))
 clear hW69
 have b69_0 := ot69 _ _ (by omega) b68_0
 have b69_1 := ot69 _ _ (by omega) b68_1
 refine wpOps_end ?_
 refine inBlock_normal ?_
 refine hK95 _ _ ?_
 as_aux_lemma =>
 refine region_dk 3 [(60, 0), (61, 1), (14, 2)] [[], [0], [0, 1]] (rel [is (.int .i64 2),
   is (.int .i64 3),
   is (.int .i64 3)])
  ⟨is_k, is_k, is_k, trivial⟩
  ⟨fun f s W l m p q r i => opv rfl rfl (by simp [go_sem, i.e 14 ((q 2 14 rfl rfl).trans k68_14)]) rfl,
  fun f s W l m p q r i => opv rfl rfl (by simp [go_sem, i.e 60 (m 0 rfl), IntWalk.i64_in (3) (by omega)]) rfl,
  fun f s W l m p q r i => opv rfl rfl (by simp [go_sem, i.e 61 (m 1 rfl)]) rfl, trivial⟩ ?_
 intro f70 s70 W70 hB70 g70 hg70
 have fB70 := hB70.f fB69
 have z70 := hB70.below.size
 have b70_0 := hB70.b b69_0
 have b70_1 := hB70.b b69_1
 have b70_2 := hB70.b nb69
 have q527' := (q524'.bw hB70)
 have q528' := (q525'.bw hB70)
 have q529' := (q526'.bw hB70)
 refine wpOps_end ?_
 have k70_2 := kt hg70 2 k68_2
 have k70_7 := kt hg70 7 k68_7
 have k70_12 := kt hg70 12 k68_12
 have k70_13 := kt hg70 13 k68_13
 have k70_55 := kt hg70 55 k68_55
 have k70_59 := kt hg70 59 k68_59
 have k70_15 := kt hg70 15 k68_15
 have k70_16 := kt hg70 16 k68_16
 have k70_83 := kt hg70 83 k68_83
 have k70_86 := kt hg70 86 k68_86
 have k70_88 := kt hg70 88 k68_88
 have k70_14 := kt hg70 14 (hB70.is 2)
 refine then_normal ?_
 rw [rounds_succ]
 refine wp_seq_k fun K100 hK100 => ?_
 refine wp_seq_k fun K101 hK101 => ?_
 as_aux_lemma =>
 refine region_dk 2 [(58, 0), (59, 1)] [[], [0]] (rel [is (.int .i64 3),
   is (.bool false)])
  ⟨is_k, is_k, trivial⟩
  ⟨fun f s W l m p q r i => opv rfl rfl (by simp [go_sem, i.e 14 k70_14]) rfl,
  fun f s W l m p q r i => opv rfl rfl (by simp [go_sem, i.e 58 (m 0 rfl)]) rfl, trivial⟩ ?_
 intro f71 s71 W71 hB71 g71 hg71
 have fB71 := hB71.f fB70
 have z71 := hB71.below.size
 have b71_0 := hB71.b b70_0
 have b71_1 := hB71.b b70_1
 have b71_2 := hB71.b b70_2
 have q530' := (q527'.bw hB71)
 have q531' := (q528'.bw hB71)
 have q532' := (q529'.bw hB71)
 refine hK101 _ _ ?_
 have k71_2 := kt hg71 2 k70_2
 have k71_7 := kt hg71 7 k70_7
 have k71_12 := kt hg71 12 k70_12
 have k71_13 := kt hg71 13 k70_13
 have k71_55 := kt hg71 55 k70_55
 have k71_15 := kt hg71 15 k70_15
 have k71_16 := kt hg71 16 k70_16
 have k71_83 := kt hg71 83 k70_83
 have k71_86 := kt hg71 86 k70_86
 have k71_88 := kt hg71 88 k70_88
 have k71_14 := kt hg71 14 k70_14
 have k71_59 := kt hg71 59 (hB71.is 1)
 refine wp_cond_false ((fr_eval rfl).trans k71_59) ?_
 refine wp_exit ?_
 refine then_exit ?_
 refine then_exit ?_
 refine inBlock_at ?_
 refine inBlock_normal ?_
 refine hK74 _ _ ?_
 as_aux_lemma =>
 refine region_dk 3 [(56, 0), (57, 1), (13, 2)] [[], [0], [0, 1]] (rel [is (.int .i64 1),
   is (.int .i64 2),
   is (.int .i64 2)])
  ⟨is_k, is_k, is_k, trivial⟩
  ⟨fun f s W l m p q r i => opv rfl rfl (by simp [go_sem, i.e 13 ((q 2 13 rfl rfl).trans k71_13)]) rfl,
  fun f s W l m p q r i => opv rfl rfl (by simp [go_sem, i.e 56 (m 0 rfl), IntWalk.i64_in (2) (by omega)]) rfl,
  fun f s W l m p q r i => opv rfl rfl (by simp [go_sem, i.e 57 (m 1 rfl)]) rfl, trivial⟩ ?_
 intro f72 s72 W72 hB72 g72 hg72
 have fB72 := hB72.f fB71
 have z72 := hB72.below.size
 have b72_0 := hB72.b b71_0
 have b72_1 := hB72.b b71_1
 have b72_2 := hB72.b b71_2
 have q533' := (q530'.bw hB72)
 have q534' := (q531'.bw hB72)
 have q535' := (q532'.bw hB72)
 refine wpOps_end ?_
 have k72_2 := kt hg72 2 k71_2
 have k72_7 := kt hg72 7 k71_7
 have k72_12 := kt hg72 12 k71_12
 have k72_55 := kt hg72 55 k71_55
 have k72_15 := kt hg72 15 k71_15
 have k72_16 := kt hg72 16 k71_16
 have k72_83 := kt hg72 83 k71_83
 have k72_86 := kt hg72 86 k71_86
 have k72_88 := kt hg72 88 k71_88
 have k72_14 := kt hg72 14 k71_14
 have k72_59 := kt hg72 59 k71_59
 have k72_13 := kt hg72 13 (hB72.is 2)
 refine then_normal ?_
 rw [rounds_succ]
 refine wp_seq_k fun K103 hK103 => ?_
 refine wp_seq_k fun K104 hK104 => ?_
 as_aux_lemma =>
 refine region_dk 2 [(54, 0), (55, 1)] [[], [0]] (rel [is (.int .i64 2),
   is (.bool true)])
  ⟨is_k, is_k, trivial⟩
  ⟨fun f s W l m p q r i => opv rfl rfl (by simp [go_sem, i.e 13 k72_13]) rfl,
  fun f s W l m p q r i => opv rfl rfl (by simp [go_sem, i.e 54 (m 0 rfl)]) rfl, trivial⟩ ?_
 intro f73 s73 W73 hB73 g73 hg73
 have fB73 := hB73.f fB72
 have z73 := hB73.below.size
 have b73_0 := hB73.b b72_0
 have b73_1 := hB73.b b72_1
 have b73_2 := hB73.b b72_2
 have q536' := (q533'.bw hB73)
 have q537' := (q534'.bw hB73)
 have q538' := (q535'.bw hB73)
 refine hK104 _ _ ?_
 have k73_2 := kt hg73 2 k72_2
 have k73_7 := kt hg73 7 k72_7
 have k73_12 := kt hg73 12 k72_12
 have k73_15 := kt hg73 15 k72_15
 have k73_16 := kt hg73 16 k72_16
 have k73_83 := kt hg73 83 k72_83
 have k73_86 := kt hg73 86 k72_86
 have k73_88 := kt hg73 88 k72_88
 have k73_14 := kt hg73 14 k72_14
 have k73_59 := kt hg73 59 k72_59
 have k73_13 := kt hg73 13 k72_13
 have k73_55 := kt hg73 55 (hB73.is 1)
 refine wp_cond_true ((fr_eval rfl).trans k73_55) ?_
 refine wp_skip ?_
 refine hK103 _ _ ?_
 refine wp_seq_k fun K106 hK106 => ?_
 refine wp_block ?_
 refine wp_seq_k fun K107 hK107 => ?_
 as_aux_lemma =>
 refine region_dk 1 [(14, 0)] [[]] (rel [is (.int .i64 0)])
  ⟨is_k, trivial⟩
  ⟨fun f s W l m p q r i => opv rfl rfl (by simp [go_sem]) rfl, trivial⟩ ?_
 intro f74 s74 W74 hB74 g74 hg74
 have fB74 := hB74.f fB73
 have z74 := hB74.below.size
 have b74_0 := hB74.b b73_0
 have b74_1 := hB74.b b73_1
 have b74_2 := hB74.b b73_2
 have q539' := (q536'.bw hB74)
 have q540' := (q537'.bw hB74)
 have q541' := (q538'.bw hB74)
 refine hK107 _ _ ?_
 have k74_2 := kt hg74 2 k73_2
 have k74_7 := kt hg74 7 k73_7
 have k74_12 := kt hg74 12 k73_12
 have k74_15 := kt hg74 15 k73_15
 have k74_16 := kt hg74 16 k73_16
 have k74_83 := kt hg74 83 k73_83
 have k74_86 := kt hg74 86 k73_86
 have k74_88 := kt hg74 88 k73_88
 have k74_59 := kt hg74 59 k73_59
 have k74_13 := kt hg74 13 k73_13
 have k74_55 := kt hg74 55 k73_55
 have k74_14 := kt hg74 14 (hB74.is 0)
 refine wp_block ?_
 refine wp_loop_rounds 4 ?_
 rw [rounds_succ]
 refine wp_seq_k fun K108 hK108 => ?_
 refine wp_seq_k fun K109 hK109 => ?_
 as_aux_lemma =>
 refine region_dk 2 [(58, 0), (59, 1)] [[], [0]] (rel [is (.int .i64 0),
   is (.bool true)])
  ⟨is_k, is_k, trivial⟩
  ⟨fun f s W l m p q r i => opv rfl rfl (by simp [go_sem, i.e 14 k74_14]) rfl,
  fun f s W l m p q r i => opv rfl rfl (by simp [go_sem, i.e 58 (m 0 rfl)]) rfl, trivial⟩ ?_
 intro f75 s75 W75 hB75 g75 hg75
 have fB75 := hB75.f fB74
 have z75 := hB75.below.size
 have b75_0 := hB75.b b74_0
 have b75_1 := hB75.b b74_1
 have b75_2 := hB75.b b74_2
 have q542' := (q539'.bw hB75)
 have q543' := (q540'.bw hB75)
 have q544' := (q541'.bw hB75)
 refine hK109 _ _ ?_
 have k75_2 := kt hg75 2 k74_2
 have k75_7 := kt hg75 7 k74_7
 have k75_12 := kt hg75 12 k74_12
 have k75_15 := kt hg75 15 k74_15
 have k75_16 := kt hg75 16 k74_16
 have k75_83 := kt hg75 83 k74_83
 have k75_86 := kt hg75 86 k74_86
 have k75_88 := kt hg75 88 k74_88
 have k75_13 := kt hg75 13 k74_13
 have k75_55 := kt hg75 55 k74_55
 have k75_14 := kt hg75 14 k74_14
 have k75_59 := kt hg75 59 (hB75.is 1)
 refine wp_cond_true ((fr_eval rfl).trans k75_59) ?_
 refine wp_skip ?_
 refine hK108 _ _ ?_
 refine wp_seq_k fun K111 hK111 => ?_
 refine wp_block ?_
 refine wp_seq_k fun K112 hK112 => ?_
 as_aux_lemma =>
 refine region_dk 14 [(63, 0), (64, 1), (65, 2), (66, 3), (67, 4), (68, 5), (69, 6), (70, 7), (71, 8), (62, 9), (72, 10), (73, 11), (15, 12), (16, 13)] [[], [0], [0, 1], [0, 1, 2], [], [4], [4, 5], [0, 1, 2, 3, 4, 5, 6], [0, 1, 2, 3, 4, 5, 6, 7], [0, 1, 2, 3, 4, 5, 6, 7, 8], [0, 1, 2, 3, 4, 5, 6, 7, 8, 9], [0, 1, 2, 3, 4, 5, 6, 7, 8, 9], [0, 1, 2, 3, 4, 5, 6, 7, 8, 9, 10], [0, 1, 2, 3, 4, 5, 6, 7, 8, 9, 10, 11, 12]] (rel [is (.int .i64 2),
   is (.pointer (some ⟨(s4 1), 2, none⟩)),
   is (.slice (some ⟨b290', o291', none⟩) (4) (c292')),
   ab fun v W => OwI w.heap.size (xs2) 4 v W,
   is (.int .i64 0),
   is (.pointer (some ⟨(s4 1), 0, none⟩)),
   is (.slice (some ⟨b106', o107', none⟩) (4) (c108')),
   ab fun v W => OwI w.heap.size (xs0) 4 v W,
   is (.tuple #[.int .i64 n20, .int .i64 0]),
   is (.tuple #[.int .i64 n20, .int .i64 0]),
   is (.int .i64 n20),
   is (.int .i64 0),
   is (.int .i64 n20),
   is (.int .i64 0)])
  ⟨is_k, is_k, is_k, ab_k fun v W W' hb h => h.below hb, is_k, is_k, is_k, ab_k fun v W W' hb h => h.below hb, is_k, is_k, is_k, is_k, is_k, is_k, trivial⟩
  ⟨fun f s W l m p q r i => opv rfl rfl (by simp [go_sem, i.e 13 k75_13]) rfl,
  fun f s W l m p q r i => opv rfl rfl (by simp [go_sem, i.e 7 k75_7, i.e 63 (m 0 rfl)]) rfl,
  fun f s W l m p q r i => opv rfl rfl (by simp [go_sem, i.e 64 (m 1 rfl), cb b75_1 l 2]) rfl,
  fun f s W l m p q r i => by have u := below_trans fB75 l; exact opDo_call rfl rfl (by simp [go_sem, i.e 65 (m 2 rfl)]) (pubInts_own (some ⟨b290', o291', none⟩) c292' 4 xs2 W (q544'.below l (Nat.le_refl _)) (by decide) (by decide)) ((fun e W' h => by obtain ⟨v, e1, ⟨g_, c_, e2, h1⟩, h2⟩ := h; exact ⟨_, e1, h2, ⟨g_, c_, e2, h1.low u.size⟩⟩)),
  fun f s W l m p q r i => opv rfl rfl (by simp [go_sem, i.e 14 k75_14]) rfl,
  fun f s W l m p q r i => opv rfl rfl (by simp [go_sem, i.e 7 k75_7, i.e 67 (m 4 rfl)]) rfl,
  fun f s W l m p q r i => opv rfl rfl (by simp [go_sem, i.e 68 (m 5 rfl), cb b75_1 l 0]) rfl,
  fun f s W l m p q r i => by have u := below_trans fB75 l; exact opDo_call rfl rfl (by simp [go_sem, i.e 69 (m 6 rfl)]) (pubInts_own (some ⟨b106', o107', none⟩) c108' 4 xs0 W (q542'.below l (Nat.le_refl _)) (by decide) (by decide)) ((fun e W' h => by obtain ⟨v, e1, ⟨g_, c_, e2, h1⟩, h2⟩ := h; exact ⟨_, e1, h2, ⟨g_, c_, e2, h1.low u.size⟩⟩)),
  fun f s W l m p q r i => by obtain ⟨g545', c546', d3, q547'⟩ := (m 3 rfl); obtain ⟨g548', c549', d7, q550'⟩ := (m 7 rfl); exact opDo_call rfl rfl (by simp [go_sem, i.e 66 d3, i.e 70 d7]) (change_any (some ⟨g545', 0, none⟩) (some ⟨g548', 0, none⟩) 4 c546' 4 c549' xs2 xs0 W (hln2 ▸ q547'.ii) (hln0 ▸ q550'.ii) gx2 gx0 (by decide) (by decide) hs2 hs0 hcm2 hcm0) ((fun e W' h => by have h1 := h.1; rw [hn20] at h1; exact ⟨_, h1, h.2, rfl⟩)),
  fun f s W l m p q r i => opv rfl rfl (by simp [go_sem, i.e 71 (m 8 rfl)]) rfl,
  fun f s W l m p q r i => opv rfl rfl (by simp [go_sem, i.e 62 (m 9 rfl)]) rfl,
  fun f s W l m p q r i => opv rfl rfl (by simp [go_sem, i.e 62 (m 9 rfl)]) rfl,
  fun f s W l m p q r i => opv rfl rfl (by simp [go_sem, i.e 72 (m 10 rfl)]) rfl,
  fun f s W l m p q r i => opv rfl rfl (by simp [go_sem, i.e 73 (m 11 rfl)]) rfl, trivial⟩ ?_
 intro f76 s76 W76 hB76 g76 hg76
 have fB76 := hB76.f fB75
 have z76 := hB76.below.size
 have b76_0 := hB76.b b75_0
 have b76_1 := hB76.b b75_1
 have b76_2 := hB76.b b75_2
 have q551' := (q542'.bw hB76)
 have q552' := (q543'.bw hB76)
 have q553' := (q544'.bw hB76)
 refine hK112 _ _ ?_
 have k76_2 := kt hg76 2 k75_2
 have k76_7 := kt hg76 7 k75_7
 have k76_12 := kt hg76 12 k75_12
 have k76_83 := kt hg76 83 k75_83
 have k76_86 := kt hg76 86 k75_86
 have k76_88 := kt hg76 88 k75_88
 have k76_13 := kt hg76 13 k75_13
 have k76_55 := kt hg76 55 k75_55
 have k76_14 := kt hg76 14 k75_14
 have k76_59 := kt hg76 59 k75_59
 have k76_15 := kt hg76 15 (hB76.is 12)
 have k76_16 := kt hg76 16 (hB76.is 13)
 refine wp_seq_k fun K113 hK113 => ?_
 refine wp_seq_k fun K114 hK114 => ?_
 as_aux_lemma =>
 refine region_dk 10 [(74, 0), (75, 1), (76, 2), (77, 3), (78, 4), (79, 5), (80, 6), (81, 7), (82, 8), (83, 9)] [[], [0], [0, 1], [0, 1, 2], [0, 1, 2, 3], [0, 1, 2, 3, 4], [0, 1, 2, 3, 4, 5], [0, 1, 2, 3, 4, 5, 6], [0, 1, 2, 3, 4, 5, 6, 7], [0, 1, 2, 3, 4, 5, 6, 7, 8]] (rel [is (.int .i64 0),
   is (.bool false),
   is (.bool false),
   is (.int .i64 n20),
   is (.bool false),
   is (.bool false),
   is (.bool false),
   is (.int .i64 n20),
   is (.bool false),
   is (.bool false)])
  ⟨is_k, is_k, is_k, is_k, is_k, is_k, is_k, is_k, is_k, is_k, trivial⟩
  ⟨fun f s W l m p q r i => opv rfl rfl (by simp [go_sem, i.e 16 k76_16]) rfl,
  fun f s W l m p q r i => opv rfl rfl (by simp [go_sem, i.e 74 (m 0 rfl)]) rfl,
  fun f s W l m p q r i => opv rfl rfl (by simp [go_sem, i.e 75 (m 1 rfl)]) rfl,
  fun f s W l m p q r i => osure rfl rfl (i.says (d := 76) rfl rfl (m 2 rfl)) (gv (by simp [go_sem, i.e 15 k76_15]) rfl),
  fun f s W l m p q r i => osure rfl rfl (i.says (d := 76) rfl rfl (m 2 rfl)) (gv (by simp [go_sem, i.e 77 (m 3 rfl), dn20_0]) rfl),
  fun f s W l m p q r i => opk (c := false) rfl rfl (fun _ => by simp [go_sem, i.e 76 (m 2 rfl), i.e 78 (m 4 rfl)]) (fun h => absurd h (by decide)),
  fun f s W l m p q r i => opv rfl rfl (by simp [go_sem, i.e 79 (m 5 rfl)]) rfl,
  fun f s W l m p q r i => osure rfl rfl (i.says (d := 80) rfl rfl (m 6 rfl)) (gv (by simp [go_sem, i.e 15 k76_15]) rfl),
  fun f s W l m p q r i => osure rfl rfl (i.says (d := 80) rfl rfl (m 6 rfl)) (gv (by simp [go_sem, i.e 81 (m 7 rfl), dn20_1]) rfl),
  fun f s W l m p q r i => opk (c := false) rfl rfl (fun _ => by simp [go_sem, i.e 80 (m 6 rfl), i.e 82 (m 8 rfl)]) (fun h => absurd h (by decide)), trivial⟩ ?_
 intro f77 s77 W77 hB77 g77 hg77
 have fB77 := hB77.f fB76
 have z77 := hB77.below.size
 have b77_0 := hB77.b b76_0
 have b77_1 := hB77.b b76_1
 have b77_2 := hB77.b b76_2
 have q554' := (q551'.bw hB77)
 have q555' := (q552'.bw hB77)
 have q556' := (q553'.bw hB77)
 refine hK114 _ _ ?_
 have k77_2 := kt hg77 2 k76_2
 have k77_7 := kt hg77 7 k76_7
 have k77_12 := kt hg77 12 k76_12
 have k77_86 := kt hg77 86 k76_86
 have k77_88 := kt hg77 88 k76_88
 have k77_13 := kt hg77 13 k76_13
 have k77_55 := kt hg77 55 k76_55
 have k77_14 := kt hg77 14 k76_14
 have k77_59 := kt hg77 59 k76_59
 have k77_15 := kt hg77 15 k76_15
 have k77_16 := kt hg77 16 k76_16
 have k77_83 := kt hg77 83 (hB77.is 9)
 refine wp_cond_false ((fr_eval rfl).trans k77_83) ?_
 refine wp_skip ?_
 refine hK113 _ _ ?_
 as_aux_lemma =>
 refine region_dk 5 [(84, 0), (85, 1), (86, 2), (87, 3), (88, 4)] [[], [], [], [0], [0, 1, 2, 3], [0, 1, 2, 3, 4]] (rel [is (.int .i64 2),
   is (.int .i64 0),
   is (.int .i64 n20),
   is (.pointer (some ⟨(s26 1), 6, none⟩)),
   is (.pointer (some ⟨(s26 1), 6, none⟩))])
  ⟨is_k, is_k, is_k, is_k, is_k, trivial⟩
  ⟨fun f s W l m p q r i => opv rfl rfl (by simp [go_sem, i.e 13 k77_13]) rfl,
  fun f s W l m p q r i => opv rfl rfl (by simp [go_sem, i.e 14 k77_14]) rfl,
  fun f s W l m p q r i => opv rfl rfl (by simp [go_sem, i.e 15 k77_15]) rfl,
  fun f s W l m p q r i => opv rfl rfl (by simp [go_sem, i.e 12 k77_12, i.e 84 (m 0 rfl)]) rfl,
  fun f s W l m p q r i => opv rfl rfl (by simp [go_sem, i.e 87 (m 3 rfl), i.e 85 (m 1 rfl)]) rfl, trivial⟩ ?_
 intro f78 s78 W78 hB78 g78 hg78
 have fB78 := hB78.f fB77
 have z78 := hB78.below.size
 have b78_0 := hB78.b b77_0
 have b78_1 := hB78.b b77_1
 have b78_2 := hB78.b b77_2
 have q557' := (q554'.bw hB78)
 have q558' := (q555'.bw hB78)
 have q559' := (q556'.bw hB78)
 have k78_2 := kt hg78 2 k77_2
 have k78_7 := kt hg78 7 k77_7
 have k78_12 := kt hg78 12 k77_12
 have k78_13 := kt hg78 13 k77_13
 have k78_55 := kt hg78 55 k77_55
 have k78_14 := kt hg78 14 k77_14
 have k78_59 := kt hg78 59 k77_59
 have k78_15 := kt hg78 15 k77_15
 have k78_16 := kt hg78 16 k77_16
 have k78_83 := kt hg78 83 k77_83
 have k78_86 := kt hg78 86 (hB78.is 2)
 have k78_88 := kt hg78 88 (hB78.is 4)
 obtain ⟨W79, hW79⟩ : ∃ W', W' = W78.setRow (s26 1) #[.int .i64 n00, .int .i64 n01, .int .i64 n02, .int .i64 n10, .int .i64 n11, .int .i64 n12, .int .i64 n20, .int .i64 0, .int .i64 0] := ⟨_, rfl⟩
 refine tail_skip (o := _) rfl ⟨rfl, rfl⟩ (run_seg hW79 (fr_ev k78_88) (fr_ev k78_86) b78_2 rfl rfl rfl rfl) ?_
 obtain ⟨fB79, nb79, ot79, z79⟩ := seg_facts hW79 fB78 b78_2 (by omega)
 have q560' := Ii.keepX q557' (keepX_row hW79) (fun b o e => by cases e; exact (by omega))
 have q561' := Ii.keepX q558' (keepX_row hW79) (fun b o e => by cases e; exact (by omega))
 have q562' := Ii.keepX q559' (keepX_row hW79) (fun b o e => by cases e; exact (by omega))
 clear hW79
 have b79_0 := ot79 _ _ (by omega) b78_0
 have b79_1 := ot79 _ _ (by omega) b78_1
 refine wpOps_end ?_
 refine inBlock_normal ?_
 refine hK111 _ _ ?_
 as_aux_lemma =>
 refine region_dk 3 [(60, 0), (61, 1), (14, 2)] [[], [0], [0, 1]] (rel [is (.int .i64 0),
   is (.int .i64 1),
   is (.int .i64 1)])
  ⟨is_k, is_k, is_k, trivial⟩
  ⟨fun f s W l m p q r i => opv rfl rfl (by simp [go_sem, i.e 14 ((q 2 14 rfl rfl).trans k78_14)]) rfl,
  fun f s W l m p q r i => opv rfl rfl (by simp [go_sem, i.e 60 (m 0 rfl), IntWalk.i64_in (1) (by omega)]) rfl,
  fun f s W l m p q r i => opv rfl rfl (by simp [go_sem, i.e 61 (m 1 rfl)]) rfl, trivial⟩ ?_
 intro f80 s80 W80 hB80 g80 hg80
 have fB80 := hB80.f fB79
 have z80 := hB80.below.size
 have b80_0 := hB80.b b79_0
 have b80_1 := hB80.b b79_1
 have b80_2 := hB80.b nb79
 have q563' := (q560'.bw hB80)
 have q564' := (q561'.bw hB80)
 have q565' := (q562'.bw hB80)
 refine wpOps_end ?_
 have k80_2 := kt hg80 2 k78_2
 have k80_7 := kt hg80 7 k78_7
 have k80_12 := kt hg80 12 k78_12
 have k80_13 := kt hg80 13 k78_13
 have k80_55 := kt hg80 55 k78_55
 have k80_59 := kt hg80 59 k78_59
 have k80_15 := kt hg80 15 k78_15
 have k80_16 := kt hg80 16 k78_16
 have k80_83 := kt hg80 83 k78_83
 have k80_86 := kt hg80 86 k78_86
 have k80_88 := kt hg80 88 k78_88
 have k80_14 := kt hg80 14 (hB80.is 2)
 refine then_normal ?_
 rw [rounds_succ]
 refine wp_seq_k fun K116 hK116 => ?_
 refine wp_seq_k fun K117 hK117 => ?_
 as_aux_lemma =>
 refine region_dk 2 [(58, 0), (59, 1)] [[], [0]] (rel [is (.int .i64 1),
   is (.bool true)])
  ⟨is_k, is_k, trivial⟩
  ⟨fun f s W l m p q r i => opv rfl rfl (by simp [go_sem, i.e 14 k80_14]) rfl,
  fun f s W l m p q r i => opv rfl rfl (by simp [go_sem, i.e 58 (m 0 rfl)]) rfl, trivial⟩ ?_
 intro f81 s81 W81 hB81 g81 hg81
 have fB81 := hB81.f fB80
 have z81 := hB81.below.size
 have b81_0 := hB81.b b80_0
 have b81_1 := hB81.b b80_1
 have b81_2 := hB81.b b80_2
 have q566' := (q563'.bw hB81)
 have q567' := (q564'.bw hB81)
 have q568' := (q565'.bw hB81)
 refine hK117 _ _ ?_
 have k81_2 := kt hg81 2 k80_2
 have k81_7 := kt hg81 7 k80_7
 have k81_12 := kt hg81 12 k80_12
 have k81_13 := kt hg81 13 k80_13
 have k81_55 := kt hg81 55 k80_55
 have k81_15 := kt hg81 15 k80_15
 have k81_16 := kt hg81 16 k80_16
 have k81_83 := kt hg81 83 k80_83
 have k81_86 := kt hg81 86 k80_86
 have k81_88 := kt hg81 88 k80_88
 have k81_14 := kt hg81 14 k80_14
 have k81_59 := kt hg81 59 (hB81.is 1)
 refine wp_cond_true ((fr_eval rfl).trans k81_59) ?_
 refine wp_skip ?_
 refine hK116 _ _ ?_
 refine wp_seq_k fun K119 hK119 => ?_
 refine wp_block ?_
 refine wp_seq_k fun K120 hK120 => ?_
 as_aux_lemma =>
 refine region_dk 14 [(63, 0), (64, 1), (65, 2), (66, 3), (67, 4), (68, 5), (69, 6), (70, 7), (71, 8), (62, 9), (72, 10), (73, 11), (15, 12), (16, 13)] [[], [0], [0, 1], [0, 1, 2], [], [4], [4, 5], [0, 1, 2, 3, 4, 5, 6], [0, 1, 2, 3, 4, 5, 6, 7], [0, 1, 2, 3, 4, 5, 6, 7, 8], [0, 1, 2, 3, 4, 5, 6, 7, 8, 9], [0, 1, 2, 3, 4, 5, 6, 7, 8, 9], [0, 1, 2, 3, 4, 5, 6, 7, 8, 9, 10], [0, 1, 2, 3, 4, 5, 6, 7, 8, 9, 10, 11, 12]] (rel [is (.int .i64 2),
   is (.pointer (some ⟨(s4 1), 2, none⟩)),
   is (.slice (some ⟨b290', o291', none⟩) (4) (c292')),
   ab fun v W => OwI w.heap.size (xs2) 4 v W,
   is (.int .i64 1),
   is (.pointer (some ⟨(s4 1), 1, none⟩)),
   is (.slice (some ⟨b195', o196', none⟩) (4) (c197')),
   ab fun v W => OwI w.heap.size (xs1) 4 v W,
   is (.tuple #[.int .i64 n21, .int .i64 0]),
   is (.tuple #[.int .i64 n21, .int .i64 0]),
   is (.int .i64 n21),
   is (.int .i64 0),
   is (.int .i64 n21),
   is (.int .i64 0)])
  ⟨is_k, is_k, is_k, ab_k fun v W W' hb h => h.below hb, is_k, is_k, is_k, ab_k fun v W W' hb h => h.below hb, is_k, is_k, is_k, is_k, is_k, is_k, trivial⟩
  ⟨fun f s W l m p q r i => opv rfl rfl (by simp [go_sem, i.e 13 k81_13]) rfl,
  fun f s W l m p q r i => opv rfl rfl (by simp [go_sem, i.e 7 k81_7, i.e 63 (m 0 rfl)]) rfl,
  fun f s W l m p q r i => opv rfl rfl (by simp [go_sem, i.e 64 (m 1 rfl), cb b81_1 l 2]) rfl,
  fun f s W l m p q r i => by have u := below_trans fB81 l; exact opDo_call rfl rfl (by simp [go_sem, i.e 65 (m 2 rfl)]) (pubInts_own (some ⟨b290', o291', none⟩) c292' 4 xs2 W (q568'.below l (Nat.le_refl _)) (by decide) (by decide)) ((fun e W' h => by obtain ⟨v, e1, ⟨g_, c_, e2, h1⟩, h2⟩ := h; exact ⟨_, e1, h2, ⟨g_, c_, e2, h1.low u.size⟩⟩)),
  fun f s W l m p q r i => opv rfl rfl (by simp [go_sem, i.e 14 k81_14]) rfl,
  fun f s W l m p q r i => opv rfl rfl (by simp [go_sem, i.e 7 k81_7, i.e 67 (m 4 rfl)]) rfl,
  fun f s W l m p q r i => opv rfl rfl (by simp [go_sem, i.e 68 (m 5 rfl), cb b81_1 l 1]) rfl,
  fun f s W l m p q r i => by have u := below_trans fB81 l; exact opDo_call rfl rfl (by simp [go_sem, i.e 69 (m 6 rfl)]) (pubInts_own (some ⟨b195', o196', none⟩) c197' 4 xs1 W (q567'.below l (Nat.le_refl _)) (by decide) (by decide)) ((fun e W' h => by obtain ⟨v, e1, ⟨g_, c_, e2, h1⟩, h2⟩ := h; exact ⟨_, e1, h2, ⟨g_, c_, e2, h1.low u.size⟩⟩)),
  fun f s W l m p q r i => by obtain ⟨g569', c570', d3, q571'⟩ := (m 3 rfl); obtain ⟨g572', c573', d7, q574'⟩ := (m 7 rfl); exact opDo_call rfl rfl (by simp [go_sem, i.e 66 d3, i.e 70 d7]) (change_any (some ⟨g569', 0, none⟩) (some ⟨g572', 0, none⟩) 4 c570' 4 c573' xs2 xs1 W (hln2 ▸ q571'.ii) (hln1 ▸ q574'.ii) gx2 gx1 (by decide) (by decide) hs2 hs1 hcm2 hcm1) ((fun e W' h => by have h1 := h.1; rw [hn21] at h1; exact ⟨_, h1, h.2, rfl⟩)),
  fun f s W l m p q r i => opv rfl rfl (by simp [go_sem, i.e 71 (m 8 rfl)]) rfl,
  fun f s W l m p q r i => opv rfl rfl (by simp [go_sem, i.e 62 (m 9 rfl)]) rfl,
  fun f s W l m p q r i => opv rfl rfl (by simp [go_sem, i.e 62 (m 9 rfl)]) rfl,
  fun f s W l m p q r i => opv rfl rfl (by simp [go_sem, i.e 72 (m 10 rfl)]) rfl,
  fun f s W l m p q r i => opv rfl rfl (by simp [go_sem, i.e 73 (m 11 rfl)]) rfl, trivial⟩ ?_
 intro f82 s82 W82 hB82 g82 hg82
 have fB82 := hB82.f fB81
 have z82 := hB82.below.size
 have b82_0 := hB82.b b81_0
 have b82_1 := hB82.b b81_1
 have b82_2 := hB82.b b81_2
 have q575' := (q566'.bw hB82)
 have q576' := (q567'.bw hB82)
 have q577' := (q568'.bw hB82)
 refine hK120 _ _ ?_
 have k82_2 := kt hg82 2 k81_2
 have k82_7 := kt hg82 7 k81_7
 have k82_12 := kt hg82 12 k81_12
 have k82_13 := kt hg82 13 k81_13
 have k82_55 := kt hg82 55 k81_55
 have k82_83 := kt hg82 83 k81_83
 have k82_86 := kt hg82 86 k81_86
 have k82_88 := kt hg82 88 k81_88
 have k82_14 := kt hg82 14 k81_14
 have k82_59 := kt hg82 59 k81_59
 have k82_15 := kt hg82 15 (hB82.is 12)
 have k82_16 := kt hg82 16 (hB82.is 13)
 refine wp_seq_k fun K121 hK121 => ?_
 refine wp_seq_k fun K122 hK122 => ?_
 as_aux_lemma =>
 refine region_dk 10 [(74, 0), (75, 1), (76, 2), (77, 3), (78, 4), (79, 5), (80, 6), (81, 7), (82, 8), (83, 9)] [[], [0], [0, 1], [0, 1, 2], [0, 1, 2, 3], [0, 1, 2, 3, 4], [0, 1, 2, 3, 4, 5], [0, 1, 2, 3, 4, 5, 6], [0, 1, 2, 3, 4, 5, 6, 7], [0, 1, 2, 3, 4, 5, 6, 7, 8]] (rel [is (.int .i64 0),
   is (.bool false),
   is (.bool false),
   is (.int .i64 n21),
   is (.bool false),
   is (.bool false),
   is (.bool false),
   is (.int .i64 n21),
   is (.bool false),
   is (.bool false)])
  ⟨is_k, is_k, is_k, is_k, is_k, is_k, is_k, is_k, is_k, is_k, trivial⟩
  ⟨fun f s W l m p q r i => opv rfl rfl (by simp [go_sem, i.e 16 k82_16]) rfl,
  fun f s W l m p q r i => opv rfl rfl (by simp [go_sem, i.e 74 (m 0 rfl)]) rfl,
  fun f s W l m p q r i => opv rfl rfl (by simp [go_sem, i.e 75 (m 1 rfl)]) rfl,
  fun f s W l m p q r i => osure rfl rfl (i.says (d := 76) rfl rfl (m 2 rfl)) (gv (by simp [go_sem, i.e 15 k82_15]) rfl),
  fun f s W l m p q r i => osure rfl rfl (i.says (d := 76) rfl rfl (m 2 rfl)) (gv (by simp [go_sem, i.e 77 (m 3 rfl), dn21_0]) rfl),
  fun f s W l m p q r i => opk (c := false) rfl rfl (fun _ => by simp [go_sem, i.e 76 (m 2 rfl), i.e 78 (m 4 rfl)]) (fun h => absurd h (by decide)),
  fun f s W l m p q r i => opv rfl rfl (by simp [go_sem, i.e 79 (m 5 rfl)]) rfl,
  fun f s W l m p q r i => osure rfl rfl (i.says (d := 80) rfl rfl (m 6 rfl)) (gv (by simp [go_sem, i.e 15 k82_15]) rfl),
  fun f s W l m p q r i => osure rfl rfl (i.says (d := 80) rfl rfl (m 6 rfl)) (gv (by simp [go_sem, i.e 81 (m 7 rfl), dn21_1]) rfl),
  fun f s W l m p q r i => opk (c := false) rfl rfl (fun _ => by simp [go_sem, i.e 80 (m 6 rfl), i.e 82 (m 8 rfl)]) (fun h => absurd h (by decide)), trivial⟩ ?_
 intro f83 s83 W83 hB83 g83 hg83
 have fB83 := hB83.f fB82
 have z83 := hB83.below.size
 have b83_0 := hB83.b b82_0
 have b83_1 := hB83.b b82_1
 have b83_2 := hB83.b b82_2
 have q578' := (q575'.bw hB83)
 have q579' := (q576'.bw hB83)
 have q580' := (q577'.bw hB83)
 refine hK122 _ _ ?_
 have k83_2 := kt hg83 2 k82_2
 have k83_7 := kt hg83 7 k82_7
 have k83_12 := kt hg83 12 k82_12
 have k83_13 := kt hg83 13 k82_13
 have k83_55 := kt hg83 55 k82_55
 have k83_86 := kt hg83 86 k82_86
 have k83_88 := kt hg83 88 k82_88
 have k83_14 := kt hg83 14 k82_14
 have k83_59 := kt hg83 59 k82_59
 have k83_15 := kt hg83 15 k82_15
 have k83_16 := kt hg83 16 k82_16
 have k83_83 := kt hg83 83 (hB83.is 9)
 refine wp_cond_false ((fr_eval rfl).trans k83_83) ?_
 refine wp_skip ?_
 refine hK121 _ _ ?_
 as_aux_lemma =>
 refine region_dk 5 [(84, 0), (85, 1), (86, 2), (87, 3), (88, 4)] [[], [], [], [0], [0, 1, 2, 3], [0, 1, 2, 3, 4]] (rel [is (.int .i64 2),
   is (.int .i64 1),
   is (.int .i64 n21),
   is (.pointer (some ⟨(s26 1), 6, none⟩)),
   is (.pointer (some ⟨(s26 1), 7, none⟩))])
  ⟨is_k, is_k, is_k, is_k, is_k, trivial⟩
  ⟨fun f s W l m p q r i => opv rfl rfl (by simp [go_sem, i.e 13 k83_13]) rfl,
  fun f s W l m p q r i => opv rfl rfl (by simp [go_sem, i.e 14 k83_14]) rfl,
  fun f s W l m p q r i => opv rfl rfl (by simp [go_sem, i.e 15 k83_15]) rfl,
  fun f s W l m p q r i => opv rfl rfl (by simp [go_sem, i.e 12 k83_12, i.e 84 (m 0 rfl)]) rfl,
  fun f s W l m p q r i => opv rfl rfl (by simp [go_sem, i.e 87 (m 3 rfl), i.e 85 (m 1 rfl)]) rfl, trivial⟩ ?_
 intro f84 s84 W84 hB84 g84 hg84
 have fB84 := hB84.f fB83
 have z84 := hB84.below.size
 have b84_0 := hB84.b b83_0
 have b84_1 := hB84.b b83_1
 have b84_2 := hB84.b b83_2
 have q581' := (q578'.bw hB84)
 have q582' := (q579'.bw hB84)
 have q583' := (q580'.bw hB84)
 have k84_2 := kt hg84 2 k83_2
 have k84_7 := kt hg84 7 k83_7
 have k84_12 := kt hg84 12 k83_12
 have k84_13 := kt hg84 13 k83_13
 have k84_55 := kt hg84 55 k83_55
 have k84_14 := kt hg84 14 k83_14
 have k84_59 := kt hg84 59 k83_59
 have k84_15 := kt hg84 15 k83_15
 have k84_16 := kt hg84 16 k83_16
 have k84_83 := kt hg84 83 k83_83
 have k84_86 := kt hg84 86 (hB84.is 2)
 have k84_88 := kt hg84 88 (hB84.is 4)
 obtain ⟨W85, hW85⟩ : ∃ W', W' = W84.setRow (s26 1) #[.int .i64 n00, .int .i64 n01, .int .i64 n02, .int .i64 n10, .int .i64 n11, .int .i64 n12, .int .i64 n20, .int .i64 n21, .int .i64 0] := ⟨_, rfl⟩
 refine tail_skip (o := _) rfl ⟨rfl, rfl⟩ (run_seg hW85 (fr_ev k84_88) (fr_ev k84_86) b84_2 rfl rfl rfl rfl) ?_
 obtain ⟨fB85, nb85, ot85, z85⟩ := seg_facts hW85 fB84 b84_2 (by omega)
 have q584' := Ii.keepX q581' (keepX_row hW85) (fun b o e => by cases e; exact (by omega))
 have q585' := Ii.keepX q582' (keepX_row hW85) (fun b o e => by cases e; exact (by omega))
 have q586' := Ii.keepX q583' (keepX_row hW85) (fun b o e => by cases e; exact (by omega))
 clear hW85
 have b85_0 := ot85 _ _ (by omega) b84_0
 have b85_1 := ot85 _ _ (by omega) b84_1
 refine wpOps_end ?_
 refine inBlock_normal ?_
 refine hK119 _ _ ?_
 as_aux_lemma =>
 refine region_dk 3 [(60, 0), (61, 1), (14, 2)] [[], [0], [0, 1]] (rel [is (.int .i64 1),
   is (.int .i64 2),
   is (.int .i64 2)])
  ⟨is_k, is_k, is_k, trivial⟩
  ⟨fun f s W l m p q r i => opv rfl rfl (by simp [go_sem, i.e 14 ((q 2 14 rfl rfl).trans k84_14)]) rfl,
  fun f s W l m p q r i => opv rfl rfl (by simp [go_sem, i.e 60 (m 0 rfl), IntWalk.i64_in (2) (by omega)]) rfl,
  fun f s W l m p q r i => opv rfl rfl (by simp [go_sem, i.e 61 (m 1 rfl)]) rfl, trivial⟩ ?_
 intro f86 s86 W86 hB86 g86 hg86
 have fB86 := hB86.f fB85
 have z86 := hB86.below.size
 have b86_0 := hB86.b b85_0
 have b86_1 := hB86.b b85_1
 have b86_2 := hB86.b nb85
 have q587' := (q584'.bw hB86)
 have q588' := (q585'.bw hB86)
 have q589' := (q586'.bw hB86)
 refine wpOps_end ?_
 have k86_2 := kt hg86 2 k84_2
 have k86_7 := kt hg86 7 k84_7
 have k86_12 := kt hg86 12 k84_12
 have k86_13 := kt hg86 13 k84_13
 have k86_55 := kt hg86 55 k84_55
 have k86_59 := kt hg86 59 k84_59
 have k86_15 := kt hg86 15 k84_15
 have k86_16 := kt hg86 16 k84_16
 have k86_83 := kt hg86 83 k84_83
 have k86_86 := kt hg86 86 k84_86
 have k86_88 := kt hg86 88 k84_88
 have k86_14 := kt hg86 14 (hB86.is 2)
 refine then_normal ?_
 rw [rounds_succ]
 refine wp_seq_k fun K124 hK124 => ?_
 refine wp_seq_k fun K125 hK125 => ?_
 as_aux_lemma =>
 refine region_dk 2 [(58, 0), (59, 1)] [[], [0]] (rel [is (.int .i64 2),
   is (.bool true)])
  ⟨is_k, is_k, trivial⟩
  ⟨fun f s W l m p q r i => opv rfl rfl (by simp [go_sem, i.e 14 k86_14]) rfl,
  fun f s W l m p q r i => opv rfl rfl (by simp [go_sem, i.e 58 (m 0 rfl)]) rfl, trivial⟩ ?_
 intro f87 s87 W87 hB87 g87 hg87
 have fB87 := hB87.f fB86
 have z87 := hB87.below.size
 have b87_0 := hB87.b b86_0
 have b87_1 := hB87.b b86_1
 have b87_2 := hB87.b b86_2
 have q590' := (q587'.bw hB87)
 have q591' := (q588'.bw hB87)
 have q592' := (q589'.bw hB87)
 refine hK125 _ _ ?_
 have k87_2 := kt hg87 2 k86_2
 have k87_7 := kt hg87 7 k86_7
 have k87_12 := kt hg87 12 k86_12
 have k87_13 := kt hg87 13 k86_13
 have k87_55 := kt hg87 55 k86_55
 have k87_15 := kt hg87 15 k86_15
 have k87_16 := kt hg87 16 k86_16
 have k87_83 := kt hg87 83 k86_83
 have k87_86 := kt hg87 86 k86_86
 have k87_88 := kt hg87 88 k86_88
 have k87_14 := kt hg87 14 k86_14
 have k87_59 := kt hg87 59 (hB87.is 1)
 refine wp_cond_true ((fr_eval rfl).trans k87_59) ?_
 refine wp_skip ?_
 refine hK124 _ _ ?_
 refine wp_seq_k fun K127 hK127 => ?_
 refine wp_block ?_
 refine wp_seq_k fun K128 hK128 => ?_
 as_aux_lemma =>
 refine region_dk 14 [(63, 0), (64, 1), (65, 2), (66, 3), (67, 4), (68, 5), (69, 6), (70, 7), (71, 8), (62, 9), (72, 10), (73, 11), (15, 12), (16, 13)] [[], [0], [0, 1], [0, 1, 2], [], [4], [4, 5], [0, 1, 2, 3, 4, 5, 6], [0, 1, 2, 3, 4, 5, 6, 7], [0, 1, 2, 3, 4, 5, 6, 7, 8], [0, 1, 2, 3, 4, 5, 6, 7, 8, 9], [0, 1, 2, 3, 4, 5, 6, 7, 8, 9], [0, 1, 2, 3, 4, 5, 6, 7, 8, 9, 10], [0, 1, 2, 3, 4, 5, 6, 7, 8, 9, 10, 11, 12]] (rel [is (.int .i64 2),
   is (.pointer (some ⟨(s4 1), 2, none⟩)),
   is (.slice (some ⟨b290', o291', none⟩) (4) (c292')),
   ab fun v W => OwI w.heap.size (xs2) 4 v W,
   is (.int .i64 2),
   is (.pointer (some ⟨(s4 1), 2, none⟩)),
   is (.slice (some ⟨b290', o291', none⟩) (4) (c292')),
   ab fun v W => OwI w.heap.size (xs2) 4 v W,
   is (.tuple #[.int .i64 n22, .int .i64 0]),
   is (.tuple #[.int .i64 n22, .int .i64 0]),
   is (.int .i64 n22),
   is (.int .i64 0),
   is (.int .i64 n22),
   is (.int .i64 0)])
  ⟨is_k, is_k, is_k, ab_k fun v W W' hb h => h.below hb, is_k, is_k, is_k, ab_k fun v W W' hb h => h.below hb, is_k, is_k, is_k, is_k, is_k, is_k, trivial⟩
  ⟨fun f s W l m p q r i => opv rfl rfl (by simp [go_sem, i.e 13 k87_13]) rfl,
  fun f s W l m p q r i => opv rfl rfl (by simp [go_sem, i.e 7 k87_7, i.e 63 (m 0 rfl)]) rfl,
  fun f s W l m p q r i => opv rfl rfl (by simp [go_sem, i.e 64 (m 1 rfl), cb b87_1 l 2]) rfl,
  fun f s W l m p q r i => by have u := below_trans fB87 l; exact opDo_call rfl rfl (by simp [go_sem, i.e 65 (m 2 rfl)]) (pubInts_own (some ⟨b290', o291', none⟩) c292' 4 xs2 W (q592'.below l (Nat.le_refl _)) (by decide) (by decide)) ((fun e W' h => by obtain ⟨v, e1, ⟨g_, c_, e2, h1⟩, h2⟩ := h; exact ⟨_, e1, h2, ⟨g_, c_, e2, h1.low u.size⟩⟩)),
  fun f s W l m p q r i => opv rfl rfl (by simp [go_sem, i.e 14 k87_14]) rfl,
  fun f s W l m p q r i => opv rfl rfl (by simp [go_sem, i.e 7 k87_7, i.e 67 (m 4 rfl)]) rfl,
  fun f s W l m p q r i => opv rfl rfl (by simp [go_sem, i.e 68 (m 5 rfl), cb b87_1 l 2]) rfl,
  fun f s W l m p q r i => by have u := below_trans fB87 l; exact opDo_call rfl rfl (by simp [go_sem, i.e 69 (m 6 rfl)]) (pubInts_own (some ⟨b290', o291', none⟩) c292' 4 xs2 W (q592'.below l (Nat.le_refl _)) (by decide) (by decide)) ((fun e W' h => by obtain ⟨v, e1, ⟨g_, c_, e2, h1⟩, h2⟩ := h; exact ⟨_, e1, h2, ⟨g_, c_, e2, h1.low u.size⟩⟩)),
  fun f s W l m p q r i => by obtain ⟨g593', c594', d3, q595'⟩ := (m 3 rfl); obtain ⟨g596', c597', d7, q598'⟩ := (m 7 rfl); exact opDo_call rfl rfl (by simp [go_sem, i.e 66 d3, i.e 70 d7]) (change_any (some ⟨g593', 0, none⟩) (some ⟨g596', 0, none⟩) 4 c594' 4 c597' xs2 xs2 W (hln2 ▸ q595'.ii) (hln2 ▸ q598'.ii) gx2 gx2 (by decide) (by decide) hs2 hs2 hcm2 hcm2) ((fun e W' h => by have h1 := h.1; rw [hn22] at h1; exact ⟨_, h1, h.2, rfl⟩)),
  fun f s W l m p q r i => opv rfl rfl (by simp [go_sem, i.e 71 (m 8 rfl)]) rfl,
  fun f s W l m p q r i => opv rfl rfl (by simp [go_sem, i.e 62 (m 9 rfl)]) rfl,
  fun f s W l m p q r i => opv rfl rfl (by simp [go_sem, i.e 62 (m 9 rfl)]) rfl,
  fun f s W l m p q r i => opv rfl rfl (by simp [go_sem, i.e 72 (m 10 rfl)]) rfl,
  fun f s W l m p q r i => opv rfl rfl (by simp [go_sem, i.e 73 (m 11 rfl)]) rfl, trivial⟩ ?_
 intro f88 s88 W88 hB88 g88 hg88
 have fB88 := hB88.f fB87
 have z88 := hB88.below.size
 have b88_0 := hB88.b b87_0
 have b88_1 := hB88.b b87_1
 have b88_2 := hB88.b b87_2
 have q599' := (q590'.bw hB88)
 have q600' := (q591'.bw hB88)
 have q601' := (q592'.bw hB88)
 refine hK128 _ _ ?_
 have k88_2 := kt hg88 2 k87_2
 have k88_7 := kt hg88 7 k87_7
 have k88_12 := kt hg88 12 k87_12
 have k88_13 := kt hg88 13 k87_13
 have k88_55 := kt hg88 55 k87_55
 have k88_83 := kt hg88 83 k87_83
 have k88_86 := kt hg88 86 k87_86
 have k88_88 := kt hg88 88 k87_88
 have k88_14 := kt hg88 14 k87_14
 have k88_59 := kt hg88 59 k87_59
 have k88_15 := kt hg88 15 (hB88.is 12)
 have k88_16 := kt hg88 16 (hB88.is 13)
 refine wp_seq_k fun K129 hK129 => ?_
 refine wp_seq_k fun K130 hK130 => ?_
 as_aux_lemma =>
 refine region_dk 10 [(74, 0), (75, 1), (76, 2), (77, 3), (78, 4), (79, 5), (80, 6), (81, 7), (82, 8), (83, 9)] [[], [0], [0, 1], [0, 1, 2], [0, 1, 2, 3], [0, 1, 2, 3, 4], [0, 1, 2, 3, 4, 5], [0, 1, 2, 3, 4, 5, 6], [0, 1, 2, 3, 4, 5, 6, 7], [0, 1, 2, 3, 4, 5, 6, 7, 8]] (rel [is (.int .i64 0),
   is (.bool false),
   is (.bool false),
   is (.int .i64 n22),
   is (.bool false),
   is (.bool false),
   is (.bool false),
   is (.int .i64 n22),
   is (.bool false),
   is (.bool false)])
  ⟨is_k, is_k, is_k, is_k, is_k, is_k, is_k, is_k, is_k, is_k, trivial⟩
  ⟨fun f s W l m p q r i => opv rfl rfl (by simp [go_sem, i.e 16 k88_16]) rfl,
  fun f s W l m p q r i => opv rfl rfl (by simp [go_sem, i.e 74 (m 0 rfl)]) rfl,
  fun f s W l m p q r i => opv rfl rfl (by simp [go_sem, i.e 75 (m 1 rfl)]) rfl,
  fun f s W l m p q r i => osure rfl rfl (i.says (d := 76) rfl rfl (m 2 rfl)) (gv (by simp [go_sem, i.e 15 k88_15]) rfl),
  fun f s W l m p q r i => osure rfl rfl (i.says (d := 76) rfl rfl (m 2 rfl)) (gv (by simp [go_sem, i.e 77 (m 3 rfl), dn22_0]) rfl),
  fun f s W l m p q r i => opk (c := false) rfl rfl (fun _ => by simp [go_sem, i.e 76 (m 2 rfl), i.e 78 (m 4 rfl)]) (fun h => absurd h (by decide)),
  fun f s W l m p q r i => opv rfl rfl (by simp [go_sem, i.e 79 (m 5 rfl)]) rfl,
  fun f s W l m p q r i => osure rfl rfl (i.says (d := 80) rfl rfl (m 6 rfl)) (gv (by simp [go_sem, i.e 15 k88_15]) rfl),
  fun f s W l m p q r i => osure rfl rfl (i.says (d := 80) rfl rfl (m 6 rfl)) (gv (by simp [go_sem, i.e 81 (m 7 rfl), dn22_1]) rfl),
  fun f s W l m p q r i => opk (c := false) rfl rfl (fun _ => by simp [go_sem, i.e 80 (m 6 rfl), i.e 82 (m 8 rfl)]) (fun h => absurd h (by decide)), trivial⟩ ?_
 intro f89 s89 W89 hB89 g89 hg89
 have fB89 := hB89.f fB88
 have z89 := hB89.below.size
 have b89_0 := hB89.b b88_0
 have b89_1 := hB89.b b88_1
 have b89_2 := hB89.b b88_2
 have q602' := (q599'.bw hB89)
 have q603' := (q600'.bw hB89)
 have q604' := (q601'.bw hB89)
 refine hK130 _ _ ?_
 have k89_2 := kt hg89 2 k88_2
 have k89_7 := kt hg89 7 k88_7
 have k89_12 := kt hg89 12 k88_12
 have k89_13 := kt hg89 13 k88_13
 have k89_55 := kt hg89 55 k88_55
 have k89_86 := kt hg89 86 k88_86
 have k89_88 := kt hg89 88 k88_88
 have k89_14 := kt hg89 14 k88_14
 have k89_59 := kt hg89 59 k88_59
 have k89_15 := kt hg89 15 k88_15
 have k89_16 := kt hg89 16 k88_16
 have k89_83 := kt hg89 83 (hB89.is 9)
 refine wp_cond_false ((fr_eval rfl).trans k89_83) ?_
 refine wp_skip ?_
 refine hK129 _ _ ?_
 as_aux_lemma =>
 refine region_dk 5 [(84, 0), (85, 1), (86, 2), (87, 3), (88, 4)] [[], [], [], [0], [0, 1, 2, 3], [0, 1, 2, 3, 4]] (rel [is (.int .i64 2),
   is (.int .i64 2),
   is (.int .i64 n22),
   is (.pointer (some ⟨(s26 1), 6, none⟩)),
   is (.pointer (some ⟨(s26 1), 8, none⟩))])
  ⟨is_k, is_k, is_k, is_k, is_k, trivial⟩
  ⟨fun f s W l m p q r i => opv rfl rfl (by simp [go_sem, i.e 13 k89_13]) rfl,
  fun f s W l m p q r i => opv rfl rfl (by simp [go_sem, i.e 14 k89_14]) rfl,
  fun f s W l m p q r i => opv rfl rfl (by simp [go_sem, i.e 15 k89_15]) rfl,
  fun f s W l m p q r i => opv rfl rfl (by simp [go_sem, i.e 12 k89_12, i.e 84 (m 0 rfl)]) rfl,
  fun f s W l m p q r i => opv rfl rfl (by simp [go_sem, i.e 87 (m 3 rfl), i.e 85 (m 1 rfl)]) rfl, trivial⟩ ?_
 intro f90 s90 W90 hB90 g90 hg90
 have fB90 := hB90.f fB89
 have z90 := hB90.below.size
 have b90_0 := hB90.b b89_0
 have b90_1 := hB90.b b89_1
 have b90_2 := hB90.b b89_2
 have q605' := (q602'.bw hB90)
 have q606' := (q603'.bw hB90)
 have q607' := (q604'.bw hB90)
 have k90_2 := kt hg90 2 k89_2
 have k90_7 := kt hg90 7 k89_7
 have k90_12 := kt hg90 12 k89_12
 have k90_13 := kt hg90 13 k89_13
 have k90_55 := kt hg90 55 k89_55
 have k90_14 := kt hg90 14 k89_14
 have k90_59 := kt hg90 59 k89_59
 have k90_15 := kt hg90 15 k89_15
 have k90_16 := kt hg90 16 k89_16
 have k90_83 := kt hg90 83 k89_83
 have k90_86 := kt hg90 86 (hB90.is 2)
 have k90_88 := kt hg90 88 (hB90.is 4)
 obtain ⟨W91, hW91⟩ : ∃ W', W' = W90.setRow (s26 1) #[.int .i64 n00, .int .i64 n01, .int .i64 n02, .int .i64 n10, .int .i64 n11, .int .i64 n12, .int .i64 n20, .int .i64 n21, .int .i64 n22] := ⟨_, rfl⟩
 refine tail_skip (o := _) rfl ⟨rfl, rfl⟩ (run_seg hW91 (fr_ev k90_88) (fr_ev k90_86) b90_2 rfl rfl rfl rfl) ?_
 obtain ⟨fB91, nb91, ot91, z91⟩ := seg_facts hW91 fB90 b90_2 (by omega)
 have q608' := Ii.keepX q605' (keepX_row hW91) (fun b o e => by cases e; exact (by omega))
 have q609' := Ii.keepX q606' (keepX_row hW91) (fun b o e => by cases e; exact (by omega))
 have q610' := Ii.keepX q607' (keepX_row hW91) (fun b o e => by cases e; exact (by omega))
 clear hW91
 have b91_0 := ot91 _ _ (by omega) b90_0
 have b91_1 := ot91 _ _ (by omega) b90_1
 refine wpOps_end ?_
 refine inBlock_normal ?_
 refine hK127 _ _ ?_
 as_aux_lemma =>
 refine region_dk 3 [(60, 0), (61, 1), (14, 2)] [[], [0], [0, 1]] (rel [is (.int .i64 2),
   is (.int .i64 3),
   is (.int .i64 3)])
  ⟨is_k, is_k, is_k, trivial⟩
  ⟨fun f s W l m p q r i => opv rfl rfl (by simp [go_sem, i.e 14 ((q 2 14 rfl rfl).trans k90_14)]) rfl,
  fun f s W l m p q r i => opv rfl rfl (by simp [go_sem, i.e 60 (m 0 rfl), IntWalk.i64_in (3) (by omega)]) rfl,
  fun f s W l m p q r i => opv rfl rfl (by simp [go_sem, i.e 61 (m 1 rfl)]) rfl, trivial⟩ ?_
 intro f92 s92 W92 hB92 g92 hg92
 have fB92 := hB92.f fB91
 have z92 := hB92.below.size
 have b92_0 := hB92.b b91_0
 have b92_1 := hB92.b b91_1
 have b92_2 := hB92.b nb91
 have q611' := (q608'.bw hB92)
 have q612' := (q609'.bw hB92)
 have q613' := (q610'.bw hB92)
 refine wpOps_end ?_
 have k92_2 := kt hg92 2 k90_2
 have k92_7 := kt hg92 7 k90_7
 have k92_12 := kt hg92 12 k90_12
 have k92_13 := kt hg92 13 k90_13
 have k92_55 := kt hg92 55 k90_55
 have k92_59 := kt hg92 59 k90_59
 have k92_15 := kt hg92 15 k90_15
 have k92_16 := kt hg92 16 k90_16
 have k92_83 := kt hg92 83 k90_83
 have k92_86 := kt hg92 86 k90_86
 have k92_88 := kt hg92 88 k90_88
 have k92_14 := kt hg92 14 (hB92.is 2)
 refine then_normal ?_
 rw [rounds_succ]
 refine wp_seq_k fun K132 hK132 => ?_
 refine wp_seq_k fun K133 hK133 => ?_
 as_aux_lemma =>
 refine region_dk 2 [(58, 0), (59, 1)] [[], [0]] (rel [is (.int .i64 3),
   is (.bool false)])
  ⟨is_k, is_k, trivial⟩
  ⟨fun f s W l m p q r i => opv rfl rfl (by simp [go_sem, i.e 14 k92_14]) rfl,
  fun f s W l m p q r i => opv rfl rfl (by simp [go_sem, i.e 58 (m 0 rfl)]) rfl, trivial⟩ ?_
 intro f93 s93 W93 hB93 g93 hg93
 have fB93 := hB93.f fB92
 have z93 := hB93.below.size
 have b93_0 := hB93.b b92_0
 have b93_1 := hB93.b b92_1
 have b93_2 := hB93.b b92_2
 have q614' := (q611'.bw hB93)
 have q615' := (q612'.bw hB93)
 have q616' := (q613'.bw hB93)
 refine hK133 _ _ ?_
 have k93_2 := kt hg93 2 k92_2
 have k93_7 := kt hg93 7 k92_7
 have k93_12 := kt hg93 12 k92_12
 have k93_13 := kt hg93 13 k92_13
 have k93_55 := kt hg93 55 k92_55
 have k93_15 := kt hg93 15 k92_15
 have k93_16 := kt hg93 16 k92_16
 have k93_83 := kt hg93 83 k92_83
 have k93_86 := kt hg93 86 k92_86
 have k93_88 := kt hg93 88 k92_88
 have k93_14 := kt hg93 14 k92_14
 have k93_59 := kt hg93 59 (hB93.is 1)
 refine wp_cond_false ((fr_eval rfl).trans k93_59) ?_
 refine wp_exit ?_
 refine then_exit ?_
 refine then_exit ?_
 refine inBlock_at ?_
 refine inBlock_normal ?_
 refine hK106 _ _ ?_
 as_aux_lemma =>
 refine region_dk 3 [(56, 0), (57, 1), (13, 2)] [[], [0], [0, 1]] (rel [is (.int .i64 2),
   is (.int .i64 3),
   is (.int .i64 3)])
  ⟨is_k, is_k, is_k, trivial⟩
  ⟨fun f s W l m p q r i => opv rfl rfl (by simp [go_sem, i.e 13 ((q 2 13 rfl rfl).trans k93_13)]) rfl,
  fun f s W l m p q r i => opv rfl rfl (by simp [go_sem, i.e 56 (m 0 rfl), IntWalk.i64_in (3) (by omega)]) rfl,
  fun f s W l m p q r i => opv rfl rfl (by simp [go_sem, i.e 57 (m 1 rfl)]) rfl, trivial⟩ ?_
 intro f94 s94 W94 hB94 g94 hg94
 have fB94 := hB94.f fB93
 have z94 := hB94.below.size
 have b94_0 := hB94.b b93_0
 have b94_1 := hB94.b b93_1
 have b94_2 := hB94.b b93_2
 have q617' := (q614'.bw hB94)
 have q618' := (q615'.bw hB94)
 have q619' := (q616'.bw hB94)
 refine wpOps_end ?_
 have k94_2 := kt hg94 2 k93_2
 have k94_7 := kt hg94 7 k93_7
 have k94_12 := kt hg94 12 k93_12
 have k94_55 := kt hg94 55 k93_55
 have k94_15 := kt hg94 15 k93_15
 have k94_16 := kt hg94 16 k93_16
 have k94_83 := kt hg94 83 k93_83
 have k94_86 := kt hg94 86 k93_86
 have k94_88 := kt hg94 88 k93_88
 have k94_14 := kt hg94 14 k93_14
 have k94_59 := kt hg94 59 k93_59
 have k94_13 := kt hg94 13 (hB94.is 2)
 refine then_normal ?_
 rw [rounds_succ]
 refine wp_seq_k fun K135 hK135 => ?_
 refine wp_seq_k fun K136 hK136 => ?_
 as_aux_lemma =>
 refine region_dk 2 [(54, 0), (55, 1)] [[], [0]] (rel [is (.int .i64 3),
   is (.bool false)])
  ⟨is_k, is_k, trivial⟩
  ⟨fun f s W l m p q r i => opv rfl rfl (by simp [go_sem, i.e 13 k94_13]) rfl,
  fun f s W l m p q r i => opv rfl rfl (by simp [go_sem, i.e 54 (m 0 rfl)]) rfl, trivial⟩ ?_
 intro f95 s95 W95 hB95 g95 hg95
 have fB95 := hB95.f fB94
 have z95 := hB95.below.size
 have b95_0 := hB95.b b94_0
 have b95_1 := hB95.b b94_1
 have b95_2 := hB95.b b94_2
 have q620' := (q617'.bw hB95)
 have q621' := (q618'.bw hB95)
 have q622' := (q619'.bw hB95)
 refine hK136 _ _ ?_
 have k95_2 := kt hg95 2 k94_2
 have k95_7 := kt hg95 7 k94_7
 have k95_12 := kt hg95 12 k94_12
 have k95_15 := kt hg95 15 k94_15
 have k95_16 := kt hg95 16 k94_16
 have k95_83 := kt hg95 83 k94_83
 have k95_86 := kt hg95 86 k94_86
 have k95_88 := kt hg95 88 k94_88
 have k95_14 := kt hg95 14 k94_14
 have k95_59 := kt hg95 59 k94_59
 have k95_13 := kt hg95 13 k94_13
 have k95_55 := kt hg95 55 (hB95.is 1)
 refine wp_cond_false ((fr_eval rfl).trans k95_55) ?_
 refine wp_exit ?_
 refine then_exit ?_
 refine then_exit ?_
 refine inBlock_at ?_
 refine hK37 _ _ ?_
 refine wp_seq_k fun K138 hK138 => ?_
 as_aux_lemma =>
 refine region_dk 1 [(17, 0)] [[]] (rel [is (.int .i64 0)])
  ⟨is_k, trivial⟩
  ⟨fun f s W l m p q r i => opv rfl rfl (by simp [go_sem]) rfl, trivial⟩ ?_
 intro f96 s96 W96 hB96 g96 hg96
 have fB96 := hB96.f fB95
 have z96 := hB96.below.size
 have b96_0 := hB96.b b95_0
 have b96_1 := hB96.b b95_1
 have b96_2 := hB96.b b95_2
 have q623' := (q620'.bw hB96)
 have q624' := (q621'.bw hB96)
 have q625' := (q622'.bw hB96)
 refine hK138 _ _ ?_
 have k96_2 := kt hg96 2 k95_2
 have k96_7 := kt hg96 7 k95_7
 have k96_12 := kt hg96 12 k95_12
 have k96_17 := kt hg96 17 (hB96.is 0)
 refine wp_seq_k fun K139 hK139 => ?_
 refine wp_seq_k fun K140 hK140 => ?_
 as_aux_lemma =>
 refine region_dk 1 [(18, 0)] [[]] (rel [is (.int .i64 0)])
  ⟨is_k, trivial⟩
  ⟨fun f s W l m p q r i => opv rfl rfl (by simp [go_sem]) rfl, trivial⟩ ?_
 intro f97 s97 W97 hB97 g97 hg97
 have fB97 := hB97.f fB96
 have z97 := hB97.below.size
 have b97_0 := hB97.b b96_0
 have b97_1 := hB97.b b96_1
 have b97_2 := hB97.b b96_2
 have q626' := (q623'.bw hB97)
 have q627' := (q624'.bw hB97)
 have q628' := (q625'.bw hB97)
 refine hK140 _ _ ?_
 have k97_2 := kt hg97 2 k96_2
 have k97_7 := kt hg97 7 k96_7
 have k97_12 := kt hg97 12 k96_12
 have k97_17 := kt hg97 17 k96_17
 have k97_18 := kt hg97 18 (hB97.is 0)
 refine wp_block ?_
 refine wp_loop_n (fun m_ a_ W_ => ∃ g_ : Nat → Value, a_ = fr 153 g_ ∧ (∃ k : Nat, m_ = 4 - k ∧ g_ 2 = .bool false ∧ g_ 7 = .pointer (some ⟨(s4 1), 0, none⟩) ∧ g_ 12 = .pointer (some ⟨(s26 1), 0, none⟩) ∧ g_ 18 = .int .i64 ((k : Int)) ∧ g_ 17 = .int .i64 ((likeF (elT xs0) (elT xs1) k)) ∧ Below w.heap.size w W_ ∧ W97.heap.size ≤ W_.heap.size ∧ W_.heap[(s1 0)]? = some (.cells #[.int .u8 ((sv 0)), .int .u8 ((sv 1)), .int .u8 ((sv 2)), .int .u8 ((sv 3)), .int .u8 ((sv 4)), .int .u8 ((sv 5)), .int .u8 ((sv 6)), .int .u8 ((sv 7)), .int .u8 ((sv 8)), .int .u8 ((sv 9)), .int .u8 ((sv 10)), .int .u8 ((sv 11)), .int .u8 ((sv 12)), .int .u8 ((sv 13)), .int .u8 ((sv 14)), .int .u8 ((sv 15)), .int .u8 ((sv 16)), .int .u8 ((sv 17)), .int .u8 ((sv 18)), .int .u8 ((sv 19)), .int .u8 ((sv 20)), .int .u8 ((sv 21)), .int .u8 ((sv 22)), .int .u8 ((sv 23)), .int .u8 ((sv 24)), .int .u8 ((sv 25)), .int .u8 ((sv 26)), .int .u8 ((sv 27)), .int .u8 ((sv 28)), .int .u8 ((sv 29)), .int .u8 ((sv 30))] 27 (0, 0)) ∧ W_.heap[(s4 1)]? = some (.cells #[.slice (some ⟨b106', o107', none⟩) (4) (c108'), .slice (some ⟨b195', o196', none⟩) (4) (c197'), .slice (some ⟨b290', o291', none⟩) (4) (c292')] 53 (0, 0)) ∧ W_.heap[(s26 1)]? = some (.cells #[.int .i64 n00, .int .i64 n01, .int .i64 n02, .int .i64 n10, .int .i64 n11, .int .i64 n12, .int .i64 n20, .int .i64 n21, .int .i64 n22] 60 (0, 0)) ∧ Ii W_ (some ⟨b106', o107', none⟩) 4 c108' xs0 ∧ Ii W_ (some ⟨b195', o196', none⟩) 4 c197' xs1 ∧ Ii W_ (some ⟨b290', o291', none⟩) 4 c292' xs2 ∧ (k ≤ 4))) ⟨_, g97, rfl, 0, rfl, k97_2, k97_7, k97_12, k97_18.trans (by rfl), k97_17.trans (by rfl), fB97, Nat.le_refl _, b97_0, b97_1, b97_2, q626', q627', q628', (by omega)⟩ ?_
 rintro _ _ W_629 ⟨g_629, rfl, k, rfl, k_629_2, k_629_7, k_629_12, k_629_18, k_629_17, fB_629, z_629, b_629_0, b_629_1, b_629_2, q630', q631', q632', lk0⟩
 have hlb_ := likeF_bd (elT xs0) (elT xs1) k
 refine wp_seq_k fun K141 hK141 => ?_
 refine wp_seq_k fun K142 hK142 => ?_
 as_aux_lemma =>
 refine region_dk 2 [(89, 0), (90, 1)] [[], [0]] (rel [is (.int .i64 ((k : Int))),
   is (.bool (decide ((k : Int) < 4)))])
  ⟨is_k, is_k, trivial⟩
  ⟨fun f s W l m p q r i => opv rfl rfl (by simp [go_sem, i.e 18 k_629_18]) rfl,
  fun f s W l m p q r i => opv rfl rfl (by simp [go_sem, i.e 89 (m 0 rfl)]) rfl, trivial⟩ ?_
 intro f98 s98 W98 hB98 g98 hg98
 have fB98 := hB98.f fB_629
 have z98 := hB98.below.size
 have b98_0 := hB98.b b_629_0
 have b98_1 := hB98.b b_629_1
 have b98_2 := hB98.b b_629_2
 have q633' := (q630'.bw hB98)
 have q634' := (q631'.bw hB98)
 have q635' := (q632'.bw hB98)
 refine hK142 _ _ ?_
 have k98_2 := kt hg98 2 k_629_2
 have k98_7 := kt hg98 7 k_629_7
 have k98_12 := kt hg98 12 k_629_12
 have k98_18 := kt hg98 18 k_629_18
 have k98_17 := kt hg98 17 k_629_17
 have k98_90 := kt hg98 90 (hB98.is 1)
 refine wp_cond_split (t := decide ((k : Int) < 4)) ((fr_eval rfl).trans k98_90) (fun hc143 => ?_) (fun hc143 => ?_)
 ·
  have hc143' := hc143; try simp only [ba] at hc143'
  have hkn : k < 4 := by omega
  refine wp_skip ?_
  refine hK141 _ _ ?_
  refine wp_seq_k fun K144 hK144 => ?_
  refine wp_block ?_
  refine wp_seq_k fun K145 hK145 => ?_
  as_aux_lemma =>
  refine region_dk 11 [(93, 0), (94, 1), (95, 2), (96, 3), (97, 4), (98, 5), (99, 6), (100, 7), (101, 8), (102, 9), (103, 10)] [[], [0], [], [0, 1, 2], [0, 1, 2, 3], [], [5], [], [5, 6, 7], [5, 6, 7, 8], [0, 1, 2, 3, 4, 5, 6, 7, 8, 9]] (rel [is (.pointer (some ⟨(s4 1), 0, none⟩)),
   is (.slice (some ⟨b106', o107', none⟩) (4) (c108')),
   is (.int .i64 ((k : Int))),
   is (.pointer (some ⟨b106', o107' + k, none⟩)),
   is (.int .i64 ((elT xs0 k))),
   is (.pointer (some ⟨(s4 1), 1, none⟩)),
   is (.slice (some ⟨b195', o196', none⟩) (4) (c197')),
   is (.int .i64 ((k : Int))),
   is (.pointer (some ⟨b195', o196' + k, none⟩)),
   is (.int .i64 ((elT xs1 k))),
   is (.bool ((elT xs0 k) == (elT xs1 k)))])
   ⟨is_k, is_k, is_k, is_k, is_k, is_k, is_k, is_k, is_k, is_k, is_k, trivial⟩
   ⟨fun f s W l m p q r i => opv rfl rfl (by simp [go_sem, i.e 7 k98_7]) rfl,
  fun f s W l m p q r i => opv rfl rfl (by simp [go_sem, i.e 93 (m 0 rfl), cb b98_1 l 0]) rfl,
  fun f s W l m p q r i => opv rfl rfl (by simp [go_sem, i.e 18 k98_18]) rfl,
  fun f s W l m p q r i => by have li_ := Nat.not_le.2 (show k < 4 by omega); have li2_ : (k : Int) < 4 := (by omega); exact opv rfl rfl (by simp [go_sem, i.e 94 (m 1 rfl), i.e 95 (m 2 rfl), li_, li2_]) rfl,
  fun f s W l m p q r i => by have cu_ := ii_at4 (q633'.below l (Nat.le_refl _)) hkn; exact opv rfl rfl (by simp [go_sem, i.e 96 (m 3 rfl), cu_]) rfl,
  fun f s W l m p q r i => opv rfl rfl (by simp [go_sem, i.e 7 k98_7]) rfl,
  fun f s W l m p q r i => opv rfl rfl (by simp [go_sem, i.e 98 (m 5 rfl), cb b98_1 l 1]) rfl,
  fun f s W l m p q r i => opv rfl rfl (by simp [go_sem, i.e 18 k98_18]) rfl,
  fun f s W l m p q r i => by have li_ := Nat.not_le.2 (show k < 4 by omega); have li2_ : (k : Int) < 4 := (by omega); exact opv rfl rfl (by simp [go_sem, i.e 99 (m 6 rfl), i.e 100 (m 7 rfl), li_, li2_]) rfl,
  fun f s W l m p q r i => by have cu_ := ii_at4 (q634'.below l (Nat.le_refl _)) hkn; exact opv rfl rfl (by simp [go_sem, i.e 101 (m 8 rfl), cu_]) rfl,
  fun f s W l m p q r i => opv rfl rfl (by simp [go_sem, i.e 97 (m 4 rfl), i.e 102 (m 9 rfl)]) rfl, trivial⟩ ?_
  intro f99 s99 W99 hB99 g99 hg99
  have fB99 := hB99.f fB98
  have z99 := hB99.below.size
  have b99_0 := hB99.b b98_0
  have b99_1 := hB99.b b98_1
  have b99_2 := hB99.b b98_2
  have q636' := (q633'.bw hB99)
  have q637' := (q634'.bw hB99)
  have q638' := (q635'.bw hB99)
  refine hK145 _ _ ?_
  have k99_2 := kt hg99 2 k98_2
  have k99_7 := kt hg99 7 k98_7
  have k99_12 := kt hg99 12 k98_12
  have k99_18 := kt hg99 18 k98_18
  have k99_17 := kt hg99 17 k98_17
  have k99_103 := kt hg99 103 (hB99.is 10)
  refine wp_cond_split (t := (elT xs0 k) == (elT xs1 k)) ((fr_eval rfl).trans k99_103) (fun hc146 => ?_) (fun hc146 => ?_)
  ·
   have hc146' := hc146; try simp only [ba] at hc146'
   as_aux_lemma =>
   refine region_dk 3 [(104, 0), (105, 1), (17, 2)] [[], [0], [0, 1]] (rel [is (.int .i64 ((likeF (elT xs0) (elT xs1) k))),
   is (.int .i64 ((likeF (elT xs0) (elT xs1) k) + 1)),
   is (.int .i64 ((likeF (elT xs0) (elT xs1) k) + 1))])
    ⟨is_k, is_k, is_k, trivial⟩
    ⟨fun f s W l m p q r i => opv rfl rfl (by simp [go_sem, i.e 17 ((q 2 17 rfl rfl).trans k99_17)]) rfl,
  fun f s W l m p q r i => opv rfl rfl (by simp [go_sem, i.e 104 (m 0 rfl), IntWalk.i64_in ((likeF (elT xs0) (elT xs1) k) + 1) (by omega)]) rfl,
  fun f s W l m p q r i => opv rfl rfl (by simp [go_sem, i.e 105 (m 1 rfl)]) rfl, trivial⟩ ?_
   intro f100 s100 W100 hB100 g100 hg100
   have fB100 := hB100.f fB99
   have z100 := hB100.below.size
   have b100_0 := hB100.b b99_0
   have b100_1 := hB100.b b99_1
   have b100_2 := hB100.b b99_2
   have q639' := (q636'.bw hB100)
   have q640' := (q637'.bw hB100)
   have q641' := (q638'.bw hB100)
   refine wpOps_end ?_
   have k100_2 := kt hg100 2 k99_2
   have k100_7 := kt hg100 7 k99_7
   have k100_12 := kt hg100 12 k99_12
   have k100_18 := kt hg100 18 k99_18
   have k100_17 := kt hg100 17 (hB100.is 2)
   refine inBlock_normal ?_
   refine hK144 _ _ ?_
   as_aux_lemma =>
   refine region_dk 3 [(91, 0), (92, 1), (18, 2)] [[], [0], [0, 1]] (rel [is (.int .i64 ((k : Int))),
   is (.int .i64 ((k : Int) + 1)),
   is (.int .i64 ((k : Int) + 1))])
    ⟨is_k, is_k, is_k, trivial⟩
    ⟨fun f s W l m p q r i => opv rfl rfl (by simp [go_sem, i.e 18 ((q 2 18 rfl rfl).trans k100_18)]) rfl,
  fun f s W l m p q r i => opv rfl rfl (by simp [go_sem, i.e 91 (m 0 rfl), IntWalk.i64_in ((k : Int) + 1) (by omega)]) rfl,
  fun f s W l m p q r i => opv rfl rfl (by simp [go_sem, i.e 92 (m 1 rfl)]) rfl, trivial⟩ ?_
   intro f101 s101 W101 hB101 g101 hg101
   have fB101 := hB101.f fB100
   have z101 := hB101.below.size
   have b101_0 := hB101.b b100_0
   have b101_1 := hB101.b b100_1
   have b101_2 := hB101.b b100_2
   have q642' := (q639'.bw hB101)
   have q643' := (q640'.bw hB101)
   have q644' := (q641'.bw hB101)
   refine wpOps_end ?_
   have k101_2 := kt hg101 2 k100_2
   have k101_7 := kt hg101 7 k100_7
   have k101_12 := kt hg101 12 k100_12
   have k101_17 := kt hg101 17 k100_17
   have k101_18 := kt hg101 18 (hB101.is 2)
   refine then_normal ?_
   exact ⟨_, by omega, g101, rfl, k + 1, rfl, k101_2, k101_7, k101_12, k101_18.trans (by go_num), k101_17.trans (by rw [like_yes (beq_iff_eq.1 hc146)]), fB101, (by omega), b101_0, b101_1, b101_2, q642', q643', q644', (by omega)⟩
  ·
   have hc146' := hc146; try simp only [ba] at hc146'
   refine wp_skip ?_
   refine inBlock_normal ?_
   refine hK144 _ _ ?_
   as_aux_lemma =>
   refine region_dk 3 [(91, 0), (92, 1), (18, 2)] [[], [0], [0, 1]] (rel [is (.int .i64 ((k : Int))),
   is (.int .i64 ((k : Int) + 1)),
   is (.int .i64 ((k : Int) + 1))])
    ⟨is_k, is_k, is_k, trivial⟩
    ⟨fun f s W l m p q r i => opv rfl rfl (by simp [go_sem, i.e 18 ((q 2 18 rfl rfl).trans k99_18)]) rfl,
  fun f s W l m p q r i => opv rfl rfl (by simp [go_sem, i.e 91 (m 0 rfl), IntWalk.i64_in ((k : Int) + 1) (by omega)]) rfl,
  fun f s W l m p q r i => opv rfl rfl (by simp [go_sem, i.e 92 (m 1 rfl)]) rfl, trivial⟩ ?_
   intro f102 s102 W102 hB102 g102 hg102
   have fB102 := hB102.f fB99
   have z102 := hB102.below.size
   have b102_0 := hB102.b b99_0
   have b102_1 := hB102.b b99_1
   have b102_2 := hB102.b b99_2
   have q645' := (q636'.bw hB102)
   have q646' := (q637'.bw hB102)
   have q647' := (q638'.bw hB102)
   refine wpOps_end ?_
   have k102_2 := kt hg102 2 k99_2
   have k102_7 := kt hg102 7 k99_7
   have k102_12 := kt hg102 12 k99_12
   have k102_17 := kt hg102 17 k99_17
   have k102_18 := kt hg102 18 (hB102.is 2)
   refine then_normal ?_
   exact ⟨_, by omega, g102, rfl, k + 1, rfl, k102_2, k102_7, k102_12, k102_18.trans (by go_num), k102_17.trans (by rw [like_no (by simpa using hc146)]), fB102, (by omega), b102_0, b102_1, b102_2, q645', q646', q647', (by omega)⟩
 ·
  have hc143' := hc143; try simp only [ba] at hc143'
  have hkn : k = 4 := by omega
  have dq4 : (decide (n01 ≤ (1000 * (4 - (likeF (elT xs0) (elT xs1) k))))) = true := by rw [hkn]; exact decide_eq_true hz4
  refine wp_exit ?_
  refine then_exit ?_
  refine then_exit ?_
  refine inBlock_at ?_
  refine hK139 _ _ ?_
  refine wp_seq_k fun K147 hK147 => ?_
  as_aux_lemma =>
  refine region_dk 48 [(106, 0), (107, 1), (108, 2), (109, 3), (110, 4), (111, 5), (112, 6), (113, 7), (114, 8), (115, 9), (116, 10), (117, 11), (118, 12), (119, 13), (120, 14), (121, 15), (122, 16), (123, 17), (124, 18), (125, 19), (126, 20), (127, 21), (128, 22), (129, 23), (130, 24), (131, 25), (132, 26), (133, 27), (134, 28), (135, 29), (136, 30), (137, 31), (138, 32), (139, 33), (140, 34), (141, 35), (142, 36), (143, 37), (144, 38), (145, 39), (146, 40), (147, 41), (148, 42), (149, 43), (150, 44), (151, 45), (152, 46), (2, 47)] [[], [0], [0, 1], [0, 1, 2], [0, 1, 2, 3], [0, 1, 2, 3, 4], [0, 1, 2, 3, 4, 5], [0, 1, 2, 3, 4, 5, 6], [0, 1, 2, 3, 4, 5, 6, 7], [0, 1, 2, 3, 4, 5, 6, 7, 8], [0, 1, 2, 3, 4, 5, 6, 7, 8, 9], [0, 1, 2, 3, 4, 5, 6, 7, 8, 9, 10], [0, 1, 2, 3, 4, 5, 6, 7, 8, 9, 10, 11], [0, 1, 2, 3, 4, 5, 6, 7, 8, 9, 10, 11, 12], [0, 1, 2, 3, 4, 5, 6, 7, 8, 9, 10], [0, 1, 2, 3, 4, 5, 6, 7, 8, 9, 10, 14], [0, 1, 2, 3, 4, 5, 6, 7, 8, 9, 10, 14, 15], [0, 1, 2, 3, 4, 5, 6, 7, 8, 9, 10, 11, 12, 13, 14, 15, 16], [0, 1, 2, 3, 4, 5, 6, 7, 8, 9, 10, 11, 12, 13, 14, 15, 16, 17], [0, 1, 2, 3, 4, 5, 6, 7, 8, 9, 10, 11, 12, 13, 14, 15, 16, 17, 18], [0, 1, 2, 3, 4, 5, 6, 7, 8, 9, 10, 11, 12, 13, 14, 15, 16, 17, 18, 19], [0, 1, 2, 3, 4, 5, 6, 7, 8, 9, 10, 11, 12, 13, 14, 15, 16, 17, 18, 19, 20], [0, 1, 2, 3, 4, 5, 6, 7, 8, 9, 10, 11, 12, 13, 14, 15, 16, 17, 18, 19, 20, 21], [0, 1, 2, 3, 4, 5, 6, 7, 8, 9, 10, 11, 12, 13, 14, 15, 16, 17, 18, 19], [0, 1, 2, 3, 4, 5, 6, 7, 8, 9, 10, 11, 12, 13, 14, 15, 16, 17, 18, 19, 23], [0, 1, 2, 3, 4, 5, 6, 7, 8, 9, 10, 11, 12, 13, 14, 15, 16, 17, 18, 19, 23, 24], [0, 1, 2, 3, 4, 5, 6, 7, 8, 9, 10, 11, 12, 13, 14, 15, 16, 17, 18, 19], [0, 1, 2, 3, 4, 5, 6, 7, 8, 9, 10, 11, 12, 13, 14, 15, 16, 17, 18, 19, 26], [0, 1, 2, 3, 4, 5, 6, 7, 8, 9, 10, 11, 12, 13, 14, 15, 16, 17, 18, 19, 26, 27], [0, 1, 2, 3, 4, 5, 6, 7, 8, 9, 10, 11, 12, 13, 14, 15, 16, 17, 18, 19, 23, 24, 25, 26, 27, 28], [0, 1, 2, 3, 4, 5, 6, 7, 8, 9, 10, 11, 12, 13, 14, 15, 16, 17, 18, 19, 20, 21, 22, 23, 24, 25, 26, 27, 28, 29], [0, 1, 2, 3, 4, 5, 6, 7, 8, 9, 10, 11, 12, 13, 14, 15, 16, 17, 18, 19, 20, 21, 22, 23, 24, 25, 26, 27, 28, 29, 30], [0, 1, 2, 3, 4, 5, 6, 7, 8, 9, 10, 11, 12, 13, 14, 15, 16, 17, 18, 19, 20, 21, 22, 23, 24, 25, 26, 27, 28, 29, 30, 31], [0, 1, 2, 3, 4, 5, 6, 7, 8, 9, 10, 11, 12, 13, 14, 15, 16, 17, 18, 19, 20, 21, 22, 23, 24, 25, 26, 27, 28, 29, 30, 31, 32], [0, 1, 2, 3, 4, 5, 6, 7, 8, 9, 10, 11, 12, 13, 14, 15, 16, 17, 18, 19, 20, 21, 22, 23, 24, 25, 26, 27, 28, 29, 30, 31, 32, 33], [0, 1, 2, 3, 4, 5, 6, 7, 8, 9, 10, 11, 12, 13, 14, 15, 16, 17, 18, 19, 20, 21, 22, 23, 24, 25, 26, 27, 28, 29, 30, 31, 32, 33, 34], [0, 1, 2, 3, 4, 5, 6, 7, 8, 9, 10, 11, 12, 13, 14, 15, 16, 17, 18, 19, 20, 21, 22, 23, 24, 25, 26, 27, 28, 29, 30, 31, 32], [0, 1, 2, 3, 4, 5, 6, 7, 8, 9, 10, 11, 12, 13, 14, 15, 16, 17, 18, 19, 20, 21, 22, 23, 24, 25, 26, 27, 28, 29, 30, 31, 32, 36], [0, 1, 2, 3, 4, 5, 6, 7, 8, 9, 10, 11, 12, 13, 14, 15, 16, 17, 18, 19, 20, 21, 22, 23, 24, 25, 26, 27, 28, 29, 30, 31, 32, 36, 37], [0, 1, 2, 3, 4, 5, 6, 7, 8, 9, 10, 11, 12, 13, 14, 15, 16, 17, 18, 19, 20, 21, 22, 23, 24, 25, 26, 27, 28, 29, 30, 31, 32, 33, 34, 35, 36, 37, 38], [0, 1, 2, 3, 4, 5, 6, 7, 8, 9, 10, 11, 12, 13, 14, 15, 16, 17, 18, 19, 20, 21, 22, 23, 24, 25, 26, 27, 28, 29, 30, 31, 32, 33, 34, 35, 36, 37, 38, 39], [0, 1, 2, 3, 4, 5, 6, 7, 8, 9, 10, 11, 12, 13, 14, 15, 16, 17, 18, 19, 20, 21, 22, 23, 24, 25, 26, 27, 28, 29, 30, 31, 32, 33, 34, 35, 36, 37, 38, 39, 40], [0, 1, 2, 3, 4, 5, 6, 7, 8, 9, 10, 11, 12, 13, 14, 15, 16, 17, 18, 19, 20, 21, 22, 23, 24, 25, 26, 27, 28, 29, 30, 31, 32, 33, 34, 35, 36, 37, 38, 39, 40, 41], [0, 1, 2, 3, 4, 5, 6, 7, 8, 9, 10, 11, 12, 13, 14, 15, 16, 17, 18, 19, 20, 21, 22, 23, 24, 25, 26, 27, 28, 29, 30, 31, 32, 33, 34, 35, 36, 37, 38, 39, 40, 41, 42], [0, 1, 2, 3, 4, 5, 6, 7, 8, 9, 10, 11, 12, 13, 14, 15, 16, 17, 18, 19, 20, 21, 22, 23, 24, 25, 26, 27, 28, 29, 30, 31, 32, 33, 34, 35, 36, 37, 38, 39, 40, 41, 42, 43], [0, 1, 2, 3, 4, 5, 6, 7, 8, 9, 10, 11, 12, 13, 14, 15, 16, 17, 18, 19, 20, 21, 22, 23, 24, 25, 26, 27, 28, 29, 30, 31, 32, 33, 34, 35, 36, 37, 38, 39, 40, 41, 42, 43, 44], [0, 1, 2, 3, 4, 5, 6, 7, 8, 9, 10, 11, 12, 13, 14, 15, 16, 17, 18, 19, 20, 21, 22, 23, 24, 25, 26, 27, 28, 29, 30, 31, 32, 33, 34, 35, 36, 37, 38, 39, 40, 41, 42, 43, 44, 45], [0, 1, 2, 3, 4, 5, 6, 7, 8, 9, 10, 11, 12, 13, 14, 15, 16, 17, 18, 19, 20, 21, 22, 23, 24, 25, 26, 27, 28, 29, 30, 31, 32, 33, 34, 35, 36, 37, 38, 39, 40, 41, 42, 43, 44, 45, 46]] (rel [is (.pointer (some ⟨(s26 1), 0, none⟩)),
   is (.pointer (some ⟨(s26 1), 0, none⟩)),
   is (.int .i64 n00),
   is (.bool true),
   is (.bool true),
   is (.pointer (some ⟨(s26 1), 3, none⟩)),
   is (.pointer (some ⟨(s26 1), 4, none⟩)),
   is (.int .i64 n11),
   is (.bool true),
   is (.bool true),
   is (.bool true),
   is (.pointer (some ⟨(s26 1), 0, none⟩)),
   is (.pointer (some ⟨(s26 1), 1, none⟩)),
   is (.int .i64 n01),
   is (.pointer (some ⟨(s26 1), 3, none⟩)),
   is (.pointer (some ⟨(s26 1), 3, none⟩)),
   is (.int .i64 n10),
   is (.bool true),
   is (.bool true),
   is (.bool true),
   is (.pointer (some ⟨(s26 1), 0, none⟩)),
   is (.pointer (some ⟨(s26 1), 2, none⟩)),
   is (.int .i64 n02),
   is (.pointer (some ⟨(s26 1), 0, none⟩)),
   is (.pointer (some ⟨(s26 1), 1, none⟩)),
   is (.int .i64 n01),
   is (.pointer (some ⟨(s26 1), 3, none⟩)),
   is (.pointer (some ⟨(s26 1), 5, none⟩)),
   is (.int .i64 n12),
   is (.int .i64 (n01 + n12)),
   is (.bool true),
   is (.bool true),
   is (.bool true),
   is (.pointer (some ⟨(s26 1), 0, none⟩)),
   is (.pointer (some ⟨(s26 1), 1, none⟩)),
   is (.int .i64 n01),
   is (.int .i64 ((likeF (elT xs0) (elT xs1) k))),
   is (.int .i64 (4 - (likeF (elT xs0) (elT xs1) k))),
   is (.int .i64 (1000 * (4 - (likeF (elT xs0) (elT xs1) k)))),
   is (.bool true),
   is (.bool true),
   is (.bool true),
   is (.bool true),
   is (.bool true),
   is (.bool true),
   is (.bool true),
   is (.bool true),
   is (.bool true)])
   ⟨is_k, is_k, is_k, is_k, is_k, is_k, is_k, is_k, is_k, is_k, is_k, is_k, is_k, is_k, is_k, is_k, is_k, is_k, is_k, is_k, is_k, is_k, is_k, is_k, is_k, is_k, is_k, is_k, is_k, is_k, is_k, is_k, is_k, is_k, is_k, is_k, is_k, is_k, is_k, is_k, is_k, is_k, is_k, is_k, is_k, is_k, is_k, is_k, trivial⟩
   ⟨fun f s W l m p q r i => opv rfl rfl (by simp [go_sem, i.e 12 k98_12]) rfl,
  fun f s W l m p q r i => opv rfl rfl (by simp [go_sem, i.e 106 (m 0 rfl)]) rfl,
  fun f s W l m p q r i => opv rfl rfl (by simp [go_sem, i.e 107 (m 1 rfl), cb b98_2 l 0]) rfl,
  fun f s W l m p q r i => opv rfl rfl (by simp [go_sem, i.e 108 (m 2 rfl), dq0]) rfl,
  fun f s W l m p q r i => opv rfl rfl (by simp [go_sem, i.e 109 (m 3 rfl)]) rfl,
  fun f s W l m p q r i => osure rfl rfl (i.says (d := 110) rfl rfl (m 4 rfl)) (gv (by simp [go_sem, i.e 12 k98_12]) rfl),
  fun f s W l m p q r i => osure rfl rfl (i.says (d := 110) rfl rfl (m 4 rfl)) (gv (by simp [go_sem, i.e 111 (m 5 rfl)]) rfl),
  fun f s W l m p q r i => osure rfl rfl (i.says (d := 110) rfl rfl (m 4 rfl)) (gv (by simp [go_sem, i.e 112 (m 6 rfl), cb b98_2 l 4]) rfl),
  fun f s W l m p q r i => osure rfl rfl (i.says (d := 110) rfl rfl (m 4 rfl)) (gv (by simp [go_sem, i.e 113 (m 7 rfl), dq1]) rfl),
  fun f s W l m p q r i => opk (c := true) rfl rfl (fun h => absurd h (by decide)) (fun _ => by simp [go_sem, i.e 110 (m 4 rfl), i.e 114 (m 8 rfl)]),
  fun f s W l m p q r i => opv rfl rfl (by simp [go_sem, i.e 115 (m 9 rfl)]) rfl,
  fun f s W l m p q r i => osure rfl rfl (i.says (d := 116) rfl rfl (m 10 rfl)) (gv (by simp [go_sem, i.e 12 k98_12]) rfl),
  fun f s W l m p q r i => osure rfl rfl (i.says (d := 116) rfl rfl (m 10 rfl)) (gv (by simp [go_sem, i.e 117 (m 11 rfl)]) rfl),
  fun f s W l m p q r i => osure rfl rfl (i.says (d := 116) rfl rfl (m 10 rfl)) (gv (by simp [go_sem, i.e 118 (m 12 rfl), cb b98_2 l 1]) rfl),
  fun f s W l m p q r i => osure rfl rfl (i.says (d := 116) rfl rfl (m 10 rfl)) (gv (by simp [go_sem, i.e 12 k98_12]) rfl),
  fun f s W l m p q r i => osure rfl rfl (i.says (d := 116) rfl rfl (m 10 rfl)) (gv (by simp [go_sem, i.e 120 (m 14 rfl)]) rfl),
  fun f s W l m p q r i => osure rfl rfl (i.says (d := 116) rfl rfl (m 10 rfl)) (gv (by simp [go_sem, i.e 121 (m 15 rfl), cb b98_2 l 3]) rfl),
  fun f s W l m p q r i => osure rfl rfl (i.says (d := 116) rfl rfl (m 10 rfl)) (gv (by simp [go_sem, i.e 119 (m 13 rfl), i.e 122 (m 16 rfl), dq2]) rfl),
  fun f s W l m p q r i => opk (c := true) rfl rfl (fun h => absurd h (by decide)) (fun _ => by simp [go_sem, i.e 116 (m 10 rfl), i.e 123 (m 17 rfl)]),
  fun f s W l m p q r i => opv rfl rfl (by simp [go_sem, i.e 124 (m 18 rfl)]) rfl,
  fun f s W l m p q r i => osure rfl rfl (i.says (d := 125) rfl rfl (m 19 rfl)) (gv (by simp [go_sem, i.e 12 k98_12]) rfl),
  fun f s W l m p q r i => osure rfl rfl (i.says (d := 125) rfl rfl (m 19 rfl)) (gv (by simp [go_sem, i.e 126 (m 20 rfl)]) rfl),
  fun f s W l m p q r i => osure rfl rfl (i.says (d := 125) rfl rfl (m 19 rfl)) (gv (by simp [go_sem, i.e 127 (m 21 rfl), cb b98_2 l 2]) rfl),
  fun f s W l m p q r i => osure rfl rfl (i.says (d := 125) rfl rfl (m 19 rfl)) (gv (by simp [go_sem, i.e 12 k98_12]) rfl),
  fun f s W l m p q r i => osure rfl rfl (i.says (d := 125) rfl rfl (m 19 rfl)) (gv (by simp [go_sem, i.e 129 (m 23 rfl)]) rfl),
  fun f s W l m p q r i => osure rfl rfl (i.says (d := 125) rfl rfl (m 19 rfl)) (gv (by simp [go_sem, i.e 130 (m 24 rfl), cb b98_2 l 1]) rfl),
  fun f s W l m p q r i => osure rfl rfl (i.says (d := 125) rfl rfl (m 19 rfl)) (gv (by simp [go_sem, i.e 12 k98_12]) rfl),
  fun f s W l m p q r i => osure rfl rfl (i.says (d := 125) rfl rfl (m 19 rfl)) (gv (by simp [go_sem, i.e 132 (m 26 rfl)]) rfl),
  fun f s W l m p q r i => osure rfl rfl (i.says (d := 125) rfl rfl (m 19 rfl)) (gv (by simp [go_sem, i.e 133 (m 27 rfl), cb b98_2 l 5]) rfl),
  fun f s W l m p q r i => osure rfl rfl (i.says (d := 125) rfl rfl (m 19 rfl)) (gv (by simp [go_sem, i.e 131 (m 25 rfl), i.e 134 (m 28 rfl), IntWalk.i64_in (n01 + n12) (by omega)]) rfl),
  fun f s W l m p q r i => osure rfl rfl (i.says (d := 125) rfl rfl (m 19 rfl)) (gv (by simp [go_sem, i.e 128 (m 22 rfl), i.e 135 (m 29 rfl), dq3]) rfl),
  fun f s W l m p q r i => opk (c := true) rfl rfl (fun h => absurd h (by decide)) (fun _ => by simp [go_sem, i.e 125 (m 19 rfl), i.e 136 (m 30 rfl)]),
  fun f s W l m p q r i => opv rfl rfl (by simp [go_sem, i.e 137 (m 31 rfl)]) rfl,
  fun f s W l m p q r i => osure rfl rfl (i.says (d := 138) rfl rfl (m 32 rfl)) (gv (by simp [go_sem, i.e 12 k98_12]) rfl),
  fun f s W l m p q r i => osure rfl rfl (i.says (d := 138) rfl rfl (m 32 rfl)) (gv (by simp [go_sem, i.e 139 (m 33 rfl)]) rfl),
  fun f s W l m p q r i => osure rfl rfl (i.says (d := 138) rfl rfl (m 32 rfl)) (gv (by simp [go_sem, i.e 140 (m 34 rfl), cb b98_2 l 1]) rfl),
  fun f s W l m p q r i => osure rfl rfl (i.says (d := 138) rfl rfl (m 32 rfl)) (gv (by simp [go_sem, i.e 17 k98_17]) rfl),
  fun f s W l m p q r i => osure rfl rfl (i.says (d := 138) rfl rfl (m 32 rfl)) (gv (by simp [go_sem, i.e 142 (m 36 rfl), IntWalk.i64_in (4 - (likeF (elT xs0) (elT xs1) k)) (by omega)]) rfl),
  fun f s W l m p q r i => osure rfl rfl (i.says (d := 138) rfl rfl (m 32 rfl)) (gv (by simp [go_sem, i.e 143 (m 37 rfl), IntWalk.i64_in (1000 * (4 - (likeF (elT xs0) (elT xs1) k))) (by omega)]) rfl),
  fun f s W l m p q r i => osure rfl rfl (i.says (d := 138) rfl rfl (m 32 rfl)) (gv (by simp [go_sem, i.e 141 (m 35 rfl), i.e 144 (m 38 rfl), dq4]) rfl),
  fun f s W l m p q r i => opk (c := true) rfl rfl (fun h => absurd h (by decide)) (fun _ => by simp [go_sem, i.e 138 (m 32 rfl), i.e 145 (m 39 rfl)]),
  fun f s W l m p q r i => opv rfl rfl (by simp [go_sem, i.e 146 (m 40 rfl)]) rfl,
  fun f s W l m p q r i => osure rfl rfl (i.says (d := 147) rfl rfl (m 41 rfl)) (gc (by simp [go_sem]) (pubScore_yes W)),
  fun f s W l m p q r i => opk (c := true) rfl rfl (fun h => absurd h (by decide)) (fun _ => by simp [go_sem, i.e 147 (m 41 rfl), i.e 148 (m 42 rfl)]),
  fun f s W l m p q r i => opv rfl rfl (by simp [go_sem, i.e 149 (m 43 rfl)]) rfl,
  fun f s W l m p q r i => osure rfl rfl (i.says (d := 150) rfl rfl (m 44 rfl)) (gc (by simp [go_sem]) (pubTrim_yes W)),
  fun f s W l m p q r i => opk (c := true) rfl rfl (fun h => absurd h (by decide)) (fun _ => by simp [go_sem, i.e 150 (m 44 rfl), i.e 151 (m 45 rfl)]),
  fun f s W l m p q r i => opv rfl rfl (by simp [go_sem, i.e 152 (m 46 rfl)]) rfl, trivial⟩ ?_
  intro f103 s103 W103 hB103 g103 hg103
  have fB103 := hB103.f fB98
  have z103 := hB103.below.size
  have b103_0 := hB103.b b98_0
  have b103_1 := hB103.b b98_1
  have b103_2 := hB103.b b98_2
  have q648' := (q633'.bw hB103)
  have q649' := (q634'.bw hB103)
  have q650' := (q635'.bw hB103)
  refine hK147 _ _ ?_
  have k103_2 := kt hg103 2 (hB103.is 47)
  refine wp_ret ?_
  refine leave_one (N := 153) (v := .bool true) (.inr rfl) Try.results4 rfl k103_2 ?_
  exact ⟨rfl, fB103⟩
end Go.Proofs.Ytnhipdbdolabkaa
