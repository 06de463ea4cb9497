/- Part of the proof: what the claim leans on. -/
import Derived.Test.YtcgccflcjejlhaaVBF
import Derived.Test.YtcgccflcjejlhaaVAL
import Derived.Test.YtcgccflcjejlhaaVAC
set_option maxHeartbeats 16000000
set_option maxRecDepth 100000
set_option linter.unusedSimpArgs false
set_option linter.unusedVariables false
namespace Go.Proofs.Ytcgccflcjejlhaa
open Go.RowKit
theorem ii_lt3 {W : World} {g o n c : Nat} {xs : List Int} (h : Ii W (some ⟨g, o, none⟩) n c xs) (h0 : 0 < xs.length) : g < W.heap.size := by
  obtain ⟨b', o', e, hlt, -⟩ := h.at h0
  cases e; exact hlt
theorem cmpInt_lt {x y : Int} (h : x < y) : Lib.compareInt x y = -1 := by
  unfold Lib.compareInt; simp [h]
theorem cmpInt_eq {x y : Int} (h : x = y) : Lib.compareInt x y = 0 := by
  unfold Lib.compareInt; simp [h]
def LexLt (xs ys : List Int) (n : Nat) : Prop := ∃ j, j < n ∧ (∀ i, i < j → elT xs i = elT ys i) ∧ elT xs j < elT ys j
def gotK (xs : Nat → List Int × Int) : Nat → List Int
  | 0 => [0, 0, 0]
  | k + 1 => addK (gotK xs k) (xs k).1 (xs k).2 3
def wasK (p : Tp) (os : Nat → To) (xs : Nat → List Int × Int) : Nat → Int
  | 0 => 0
  | k + 1 => wasK p os xs k + leftF p os (xs k).1 3 * (xs k).2
theorem gotK_len (xs : Nat → List Int × Int) : ∀ k, (gotK xs k).length = 3
  | 0 => rfl
  | k + 1 => by rw [gotK, addK_len, gotK_len xs k]
structure GetOk (p : Tp) (os : Nat → To) (n : Nat) (xs : Nat → List Int × Int) : Prop where
  n3 : n ≤ 3
  ln : ∀ j, j < n → (xs j).1.length = 3
  bd : ∀ j, j < n → ∀ x ∈ (xs j).1, 0 ≤ x ∧ x ≤ 4
  pt : ∀ j, j < n → patF p os (xs j).1 3 = true
  rn : ∀ j, j < n → 1 ≤ (xs j).2 ∧ (xs j).2 ≤ 30
  lx : ∀ j, 0 < j → j < n → LexLt (xs (j - 1)).1 (xs j).1 3
theorem gotK_bd {p : Tp} {os : Nat → To} {n : Nat} {xs : Nat → List Int × Int} (h : GetOk p os n xs) : ∀ k, k ≤ n → ∀ i, 0 ≤ elT (gotK xs k) i ∧ elT (gotK xs k) i ≤ 120 * (k : Int)
  | 0, _, i => by
    have : elT (gotK xs 0) i = 0 := by
      show elT [0, 0, 0] i = 0
      unfold elT
      rw [List.getD_eq_getElem?_getD]
      match i with
      | 0 => rfl
      | 1 => rfl
      | 2 => rfl
      | i + 3 => rfl
    rw [this]; omega
  | k + 1, hk, i => by
    have ih := gotK_bd h k (by omega) i
    have h1 := getD_bd (h.bd k (by omega)) (by decide) i
    have h2 := h.rn k (by omega)
    have h3 := tr_mul h1 (show 0 ≤ (xs k).2 ∧ (xs k).2 ≤ 30 by omega)
    rw [gotK, addK_at _ _ _ _ _ (by rw [gotK_len]; exact Nat.le_refl _)]
    split <;> omega
theorem pat_left {p : Tp} {os : Nat → To} {xs : List Int} (hp : TpIn p) (h : patF p os xs 3 = true) : 0 ≤ leftF p os xs 3 ∧ leftF p os xs 3 ≤ 3000 := by
  unfold patF at h
  rw [Bool.and_eq_true, Bool.and_eq_true] at h
  have h1 := within1_iff.1 h.2
  have h2 := hp.trim
  omega
theorem wasK_bd {p : Tp} {os : Nat → To} {n : Nat} {xs : Nat → List Int × Int} (hp : TpIn p) (h : GetOk p os n xs) : ∀ k, k ≤ n → 0 ≤ wasK p os xs k ∧ wasK p os xs k ≤ 90000 * (k : Int)
  | 0, _ => by show (0 : Int) ≤ 0 ∧ (0 : Int) ≤ _; omega
  | k + 1, hk => by
    have ih := wasK_bd hp h k (by omega)
    have h2 := h.rn k (by omega)
    have h3 := tr_mul (pat_left hp (h.pt k (by omega))) (show 0 ≤ (xs k).2 ∧ (xs k).2 ≤ 30 by omega)
    rw [wasK]; omega
theorem cmp_side {xs ys : List Int} {j k : Nat} (h1 : ∀ i, i < j → elT xs i = elT ys i) (h2 : elT xs j < elT ys j) (h : k ≤ j) : elT xs k < elT ys k ∨ elT xs k = elT ys k := by
  rcases Nat.lt_or_ge k j with h' | h'
  · exact .inr (h1 k h')
  · obtain rfl : k = j := by omega
    exact .inl h2
theorem cmp_next {xs ys : List Int} {j k : Nat} (h2 : elT xs j < elT ys j) (h : k ≤ j) (e : elT xs k = elT ys k) : k < j := by
  rcases Nat.lt_or_ge k j with h' | h'
  · exact h'
  · obtain rfl : k = j := by omega
    omega
theorem compare_lt (ax ay : Option Addr) (n cx cy j : Nat) (xs ys : List Int) (w : World) (hX : Ii w ax n cx xs) (hY : Ii w ay n cy ys) (hn : n ≤ 1000) (hj0 : j < n) (hj1 : ∀ i, i < j → elT xs i = elT ys i) (hj2 : elT xs j < elT ys j) :
  Calls Try.prog 123 #[.slice ax n cx, .slice ay n cy] w (fun e w' => e = .returned (.int .i64 (-1)) ∧ Below w.heap.size w w') := by
 obtain ⟨bz, oz, hX_⟩ := hX.open
 obtain ⟨by_, oy_, hY_⟩ := hY.open
 refine calls_fr Try.func123 Try.ntmps123 rfl rfl fun g hg => ?_
 have k0 : g 0 = .slice ax n cx := hg 0
 have k1 : g 1 = .slice ay n cy := hg 1
 clear hg
 have fB0 : Below w.heap.size w w := Below.refl _ _
 refine rw_ 1 [(4, 0)] [[]] (rel [iI 0])
  ⟨fun f s W b c d l m a => opz, trivial⟩ ?_
 intro f1 s1 W1 hB1 g1 hg1 z1
 have k1_0 := kt hg1 0 k0
 refine wp_seq_k fun K2 hK2 => ?_
 refine rw_ 3 [(9, 0), (10, 1), (11, 2)] [[], [0], []] (rel [is (.slice ax n cx), iI ((n : Int)), iI 0])
  ⟨fun f s W b c d l m a => opm (a.v 0 k1_0),
  fun f s W b c d l m a => opv rfl rfl (by simp [go_sem, a.e 9 (c 0 rfl)]) rfl,
  fun f s W b c d l m a => opz, trivial⟩ ?_
 intro f2 s2 W2 hB2 g2 hg2 z2
 have fB2 := hB2.f (hB1.f fB0)
 have k2_0 := kt hg2 0 k1_0
 have k2_1 := kt hg2 1 (kt hg1 1 k1)
 have k2_4 := kt hg2 4 (kt hg1 4 (hB1.is 0))
 have k2_9 := kt hg2 9 (hB2.is 0)
 have k2_10 := kt hg2 10 (hB2.is 1)
 have k2_11 := kt hg2 11 (hB2.is 2)
 refine wp_block ?_
 refine wp_loop_n (fun m_ a_ W_ => ∃ g_ : Nat → Value, a_ = fr 36 g_ ∧ (∃ k : Nat, m_ = n - k ∧ g_ 0 = .slice ax n cx ∧ g_ 1 = .slice ay n cy ∧ g_ 4 = .int .i64 0 ∧ g_ 9 = .slice ax n cx ∧ g_ 10 = .int .i64 ((n : Int)) ∧ g_ 11 = .int .i64 ((k : Int)) ∧ Below w.heap.size w W_ ∧ W2.heap.size ≤ W_.heap.size ∧ (k ≤ j))) ⟨_, g2, rfl, 0, rfl, k2_0, k2_1, k2_4, k2_9, k2_10, k2_11.trans (by rfl), fB2, Nat.le_refl _, (by omega)⟩ ?_
 rintro _ _ W_1 ⟨g_1, rfl, k, rfl, k_1_0, k_1_1, k_1_4, k_1_9, k_1_10, k_1_11, fB_1, z_1, lk0⟩
 refine rw_ 1 [(12, 0)] [[]] (rel [iB (decide ((k : Int) < (n : Int)))])
  ⟨fun f s W b c d l m a => opv rfl rfl (by simp [go_sem, a.e 11 k_1_11, a.e 10 k_1_10]) rfl, trivial⟩ ?_
 intro f3 s3 W3 hB3 g3 hg3 z3
 have fB3 := hB3.f fB_1
 have k3_9 := kt hg3 9 k_1_9
 have k3_11 := kt hg3 11 k_1_11
 have k3_12 := kt hg3 12 (hB3.is 0)
 refine wp_seq_k fun K5 hK5 => ?_
 refine wp_cond_split (t := decide ((k : Int) < (n : Int))) ((fr_eval rfl).trans k3_12) (fun hc6 => ?_) (fun hc6 => ?_)
 ·
  have hc6' := hc6; try simp only [ba] at hc6'
  refine wp_skip ?_
  refine hK5 _ _ ?_
  refine wp_seq_k fun K7 hK7 => ?_
  refine wp_block ?_
  refine rw_ 5 [(13, 0), (14, 1), (15, 2), (5, 3), (6, 4)] [[], [], [1], [0], [2]] (rel [iI ((k : Int)), is (.pointer (some ⟨bz, oz + k, none⟩)), iI ((elT xs k)), iI ((k : Int)), iI ((elT xs k))])
   ⟨fun f s W b c d l m a => opm (a.v 11 k3_11),
  fun f s W b c d l m a => by have hab := (hX_ (by omega)).1; have li_ := Nat.not_le.2 (show k < n by omega); have li2_ : (k : Int) < (n : Int) := (by omega); exact opv rfl rfl (by simp [go_sem, a.e 9 k3_9, a.e 11 k3_11, hab, li_, li2_]) rfl,
  fun f s W b c d l m a => by have o := bwt fB3 b; have cu_ := (hX_ (by omega)).2 W o k (by omega); exact opv rfl rfl (by simp [go_sem, a.e 14 (c 1 rfl), cu_]) rfl,
  fun f s W b c d l m a => opm (a.v 13 (c 0 rfl)),
  fun f s W b c d l m a => opm (a.v 15 (c 2 rfl)), trivial⟩ ?_
  intro f4 s4 W4 hB4 g4 hg4 z4
  have k4_1 := kt hg4 1 (kt hg3 1 k_1_1)
  have k4_5 := kt hg4 5 (hB4.is 3)
  refine wp_seq_k fun K9 hK9 => ?_
  refine rw_ 4 [(16, 0), (17, 1), (18, 2), (19, 3)] [[], [], [1], [0, 2]] (rel [iI ((k : Int)), is (.slice ay n cy), iI ((n : Int)), iB (decide ((n : Int) ≤ (k : Int)))])
   ⟨fun f s W b c d l m a => opm (a.v 5 k4_5),
  fun f s W b c d l m a => opm (a.v 1 k4_1),
  fun f s W b c d l m a => opv rfl rfl (by simp [go_sem, a.e 17 (c 1 rfl)]) rfl,
  fun f s W b c d l m a => opv rfl rfl (by simp [go_sem, a.e 16 (c 0 rfl), a.e 18 (c 2 rfl)]) rfl, trivial⟩ ?_
  intro f5 s5 W5 hB5 g5 hg5 z5
  have fB5 := hB5.f (hB4.f fB3)
  have k5_1 := kt hg5 1 k4_1
  have k5_5 := kt hg5 5 k4_5
  have k5_19 := kt hg5 19 (hB5.is 3)
  refine wp_cond_split (t := decide ((n : Int) ≤ (k : Int))) ((fr_eval rfl).trans k5_19) (fun hc11 => ?_) (fun hc11 => ?_)
  ·
   have hc11' := hc11; try simp only [ba] at hc11'
   exfalso
   omega
   -- done
  ·
   have hc11' := hc11; try simp only [ba] at hc11'
   refine wp_skip ?_
   refine hK9 _ _ ?_
   refine rw_ 5 [(20, 0), (21, 1), (22, 2), (23, 3), (7, 4)] [[], [], [0, 1], [2], [3]] (rel [is (.slice ay n cy), iI ((k : Int)), is (.pointer (some ⟨by_, oy_ + k, none⟩)), iI ((elT ys k)), iI ((elT ys k))])
    ⟨fun f s W b c d l m a => opm (a.v 1 k5_1),
  fun f s W b c d l m a => opm (a.v 5 k5_5),
  fun f s W b c d l m a => by have hab := (hY_ (by omega)).1; have li_ := Nat.not_le.2 (show k < n by omega); have li2_ : (k : Int) < (n : Int) := (by omega); exact opv rfl rfl (by simp [go_sem, a.e 20 (c 0 rfl), a.e 21 (c 1 rfl), hab, li_, li2_]) rfl,
  fun f s W b c d l m a => by have o := bwt fB5 b; have cu_ := (hY_ (by omega)).2 W o k (by omega); exact opv rfl rfl (by simp [go_sem, a.e 22 (c 2 rfl), cu_]) rfl,
  fun f s W b c d l m a => opm (a.v 23 (c 3 rfl)), trivial⟩ ?_
   intro f6 s6 W6 hB6 g6 hg6 z6
   have fB6 := hB6.f fB5
   have k6_0 := kt hg6 0 (kt hg5 0 (kt hg4 0 (kt hg3 0 k_1_0)))
   have k6_1 := kt hg6 1 k5_1
   have k6_4 := kt hg6 4 (kt hg5 4 (kt hg4 4 (kt hg3 4 k_1_4)))
   have k6_9 := kt hg6 9 (kt hg5 9 (kt hg4 9 k3_9))
   have k6_10 := kt hg6 10 (kt hg5 10 (kt hg4 10 (kt hg3 10 k_1_10)))
   have k6_11 := kt hg6 11 (kt hg5 11 (kt hg4 11 k3_11))
   have k6_6 := kt hg6 6 (kt hg5 6 (kt hg4 6 (hB4.is 4)))
   have k6_7 := kt hg6 7 (hB6.is 4)
   refine wp_seq_k fun K13 hK13 => ?_
   have hj_ : elT xs k < elT ys k ∨ elT xs k = elT ys k := cmp_side hj1 hj2 (by omega)
   rcases hj_ with hj_ | hj_
   ·
    refine ry 4 [(24, 0), (25, 1), (26, 2), (8, 3)] [[], [], [0, 1], [2]] (rel [iI ((elT xs k)), iI ((elT ys k)), iI (-1), iI (-1)])
     ⟨fun f s W b c d l m a => opm (a.v 6 k6_6),
  fun f s W b c d l m a => opm (a.v 7 k6_7),
  fun f s W b c d l m a => opd rfl rfl (by simp [go_sem, a.e 24 (c 0 rfl), a.e 25 (c 1 rfl)]) (Try.cmp_Compare_int ((elT xs k)) ((elT ys k)) W) ((fun e W' h => by obtain ⟨h1, rfl⟩ := h; rw [cmpInt_lt hj_] at h1; exact ⟨_, h1, Below.refl _ _, rfl⟩)),
  fun f s W b c d l m a => opm (a.v 26 (c 2 rfl)), trivial⟩ ?_
    intro f7 s7 W7 hB7 g7 hg7 z7
    have fB7 := hB7.f fB6
    refine hK13 _ _ ?_
    have k7_8 := kt hg7 8 (hB7.is 3)
    refine rw_ 2 [(27, 0), (28, 1)] [[], [0]] (rel [iI (-1), iB true])
     ⟨fun f s W b c d l m a => opm (a.v 8 k7_8),
  fun f s W b c d l m a => opv rfl rfl (by simp [go_sem, a.e 27 (c 0 rfl)]) rfl, trivial⟩ ?_
    intro f8 s8 W8 hB8 g8 hg8 z8
    have fB8 := hB8.f fB7
    have k8_8 := kt hg8 8 k7_8
    have k8_28 := kt hg8 28 (hB8.is 1)
    refine wp_cond_true ((fr_eval rfl).trans k8_28) ?_
    refine rw_ 2 [(29, 0), (4, 1)] [[], [0]] (rel [iI (-1), iI (-1)])
     ⟨fun f s W b c d l m a => opm (a.v 8 k8_8),
  fun f s W b c d l m a => opm (a.v 29 (c 0 rfl)), trivial⟩ ?_
    intro f9 s9 W9 hB9 g9 hg9 z9
    have fB9 := hB9.f fB8
    have k9_4 := kt hg9 4 (hB9.is 1)
    refine wp_ret ?_
    refine inBlock_ret (then_ret (then_ret (inBlock_ret (then_ret ?_))))
    refine leave_one (N := 36) (.inr rfl) Try.results123 rfl k9_4 ?_
    exact ⟨rfl, fB9⟩
   ·
    refine ry 4 [(24, 0), (25, 1), (26, 2), (8, 3)] [[], [], [0, 1], [2]] (rel [iI ((elT xs k)), iI ((elT ys k)), iI 0, iI 0])
     ⟨fun f s W b c d l m a => opm (a.v 6 k6_6),
  fun f s W b c d l m a => opm (a.v 7 k6_7),
  fun f s W b c d l m a => opd rfl rfl (by simp [go_sem, a.e 24 (c 0 rfl), a.e 25 (c 1 rfl)]) (Try.cmp_Compare_int ((elT xs k)) ((elT ys k)) W) ((fun e W' h => by obtain ⟨h1, rfl⟩ := h; rw [cmpInt_eq hj_] at h1; exact ⟨_, h1, Below.refl _ _, rfl⟩)),
  fun f s W b c d l m a => opm (a.v 26 (c 2 rfl)), trivial⟩ ?_
    intro f10 s10 W10 hB10 g10 hg10 z10
    have fB10 := hB10.f fB6
    refine hK13 _ _ ?_
    have k10_0 := kt hg10 0 k6_0
    have k10_1 := kt hg10 1 k6_1
    have k10_4 := kt hg10 4 k6_4
    have k10_9 := kt hg10 9 k6_9
    have k10_10 := kt hg10 10 k6_10
    have k10_11 := kt hg10 11 k6_11
    have k10_8 := kt hg10 8 (hB10.is 3)
    refine rw_ 2 [(27, 0), (28, 1)] [[], [0]] (rel [iI 0, iB false])
     ⟨fun f s W b c d l m a => opm (a.v 8 k10_8),
  fun f s W b c d l m a => opv rfl rfl (by simp [go_sem, a.e 27 (c 0 rfl)]) rfl, trivial⟩ ?_
    intro f11 s11 W11 hB11 g11 hg11 z11
    have fB11 := hB11.f fB10
    have k11_0 := kt hg11 0 k10_0
    have k11_1 := kt hg11 1 k10_1
    have k11_4 := kt hg11 4 k10_4
    have k11_9 := kt hg11 9 k10_9
    have k11_10 := kt hg11 10 k10_10
    have k11_11 := kt hg11 11 k10_11
    have k11_28 := kt hg11 28 (hB11.is 1)
    refine wp_cond_false ((fr_eval rfl).trans k11_28) ?_
    refine wp_skip ?_
    refine ibn ?_
    refine hK7 _ _ ?_
    refine ry 2 [(30, 0), (11, 1)] [[], [0]] (rel [iI ((k : Int) + 1), iI ((k : Int) + 1)])
     ⟨fun f s W b c d l m a => opv rfl rfl (by simp [go_sem, a.e 11 ((l 1 11 rfl rfl).trans k11_11), IntWalk.i64_in ((k : Int) + 1) (by omega)]) rfl,
  fun f s W b c d l m a => opm (a.v 30 (c 0 rfl)), trivial⟩ ?_
    intro f12 s12 W12 hB12 g12 hg12 z12
    have fB12 := hB12.f fB11
    refine wpe ?_
    have k12_0 := kt hg12 0 k11_0
    have k12_1 := kt hg12 1 k11_1
    have k12_4 := kt hg12 4 k11_4
    have k12_9 := kt hg12 9 k11_9
    have k12_10 := kt hg12 10 k11_10
    have k12_11 := kt hg12 11 (hB12.is 1)
    refine then_normal ?_
    have hkj_ : k < j := cmp_next hj2 lk0 hj_
    exact ⟨_, by omega, g12, rfl, k + 1, rfl, k12_0, k12_1, k12_4, k12_9, k12_10, k12_11.trans (by go_num), fB12, (by omega), (by omega)⟩
 ·
  have hc6' := hc6; try simp only [ba] at hc6'
  exfalso
  omega
  -- done
theorem compare_at {ax ay : Option Addr} {cx cy : Nat} {xs ys : List Int} (h : LexLt xs ys 3) (h1 : xs.length = 3) (h2 : ys.length = 3) (w : World) (hX : Ii w ax xs.length cx xs) (hY : Ii w ay ys.length cy ys) : Calls Try.prog 123 #[.slice ax xs.length cx, .slice ay ys.length cy] w (fun e w' => e = .returned (.int .i64 (-1)) ∧ Below w.heap.size w w') := by
  obtain ⟨j, h3, h4, h5⟩ := h
  rw [h1] at hX ⊢; rw [h2] at hY ⊢
  exact compare_lt ax ay 3 cx cy j xs ys w hX hY (by decide) h3 h4 h5
def IsG (gs : List Int) (v : Value) (W : World) : Prop := ∃ g c, v = .slice (some ⟨g, 0, none⟩) 3 c ∧ Ii W (some ⟨g, 0, none⟩) 3 c gs ∧ g < W.heap.size
theorem IsG.below {gs : List Int} {v : Value} {W W' : World} (h : IsG gs v W) (hb : Below W.heap.size W W') : IsG gs v W' := by
  obtain ⟨g, c, e, h, h2⟩ := h; exact ⟨g, c, e, h.below hb (Nat.le_refl _), Nat.lt_of_lt_of_le h2 hb.size⟩
theorem get_ok (p : Tp) (os : Nat → To) (bo oo co : Nat) (n c bq oq : Nat) (al : Option Addr) (xs : Nat → List Int × Int) (ad : Nat → Option Addr) (cp : Nat → Nat) (w : World) (hO : OrdR w bo oo 3 os) (hp : TpIn p) (ho : ∀ i, i < 3 → ToIn (os i)) (hal : 0 < n → al = some ⟨bq, oq, none⟩) (hS : SuR w bq oq n xs ad cp) (hg : GetOk p os n xs) :
  Calls Try.prog 78 #[.agg #[.int .i64 p.wide, .int .i64 p.tlo, .int .i64 p.thi, .int .i64 p.webs, .slice (some ⟨bo, oo, none⟩) 3 co], .slice al n c] w (fun e w' => ∃ v, e = .returned (.tuple #[v, .int .i64 (wasK p os xs n), .int .i64 0, .int .i64 0]) ∧ IsG (gotK xs n) v w' ∧ Below w.heap.size w w') := by
 have gn3 := hg.n3
 have hn3_ : decide (3 < (n : Int)) = false := decide_eq_false (by omega)
 refine calls_fr Try.func78 Try.ntmps78 rfl rfl fun g hg => ?_
 have k0 : g 0 = .agg #[.int .i64 p.wide, .int .i64 p.tlo, .int .i64 p.thi, .int .i64 p.webs, .slice (some ⟨bo, oo, none⟩) 3 co] := hg 0
 have k1 : g 1 = .slice al n c := hg 1
 clear hg
 have fB0 : Below w.heap.size w w := Below.refl _ _
 refine rw_ 5 [(2, 0), (4, 1), (5, 2), (6, 3), (7, 4)] [[], [], [], [], []] (rel [bx 0 #[.int .i64 p.wide, .int .i64 p.tlo, .int .i64 p.thi, .int .i64 p.webs, .slice (some ⟨bo, oo, none⟩) 3 co] 110, is (.slice none 0 0), iI 0, iI 0, iI 0])
  ⟨fun f s W j l m q r a => opb rfl rfl (by simp [go_sem, a.e 0 k0]),
  fun f s W j l m q r a => opv rfl rfl (by simp [go_sem]) rfl,
  fun f s W j l m q r a => opz,
  fun f s W j l m q r a => opz,
  fun f s W j l m q r a => opz, trivial⟩ ?_
 intro f1 s1 W1 hB1 g1 hg1 z1
 obtain ⟨r1_0, br1_0⟩ := hB1.is 0
 have lr1_0 := hB1.lr 0 br1_0
 have k1_1 := kt hg1 1 k1
 refine wp_seq_k fun K2 hK2 => ?_
 refine rw_ 3 [(11, 0), (12, 1), (13, 2)] [[], [0], [1]] (rel [is (.slice al n c), iI ((n : Int)), iB false])
  ⟨fun f s W j l m q r a => opm (a.v 1 k1_1),
  fun f s W j l m q r a => opv rfl rfl (by simp [go_sem, a.e 11 (l 0 rfl)]) rfl,
  fun f s W j l m q r a => opv rfl rfl (by simp [go_sem, a.e 12 (l 1 rfl), hn3_]) rfl, trivial⟩ ?_
 intro f2 s2 W2 hB2 g2 hg2 z2
 have b2_0 := hB2.b br1_0
 have k2_2 := kt hg2 2 (kt hg1 2 r1_0)
 have k2_13 := kt hg2 13 (hB2.is 2)
 refine wp_cond_false ((fr_eval rfl).trans k2_13) ?_
 refine wp_skip ?_
 refine hK2 _ _ ?_
 refine rx 5 [(14, 0), (15, 1), (16, 2), (17, 3), (4, 4)] [[], [0], [1], [2], [0, 1, 2, 3]] (rel [is (.pointer (some ⟨(s1 0), 4, none⟩)), is (.slice (some ⟨bo, oo, none⟩) 3 co), iI 3, row 3 3 #[.int .i64 0, .int .i64 0, .int .i64 0] 3, isS fun s => .slice (some ⟨(s 3), 0, none⟩) (3) (3)])
  ⟨is_k, is_k, is_k, row_k, isS_k fun s s' e => by rw [e 3 (by simp)], trivial⟩
  ⟨fun f s W j l m q r a => opv rfl rfl (by simp [go_sem, a.e 2 k2_2]) rfl,
  fun f s W j l m q r a => opv rfl rfl (by simp [go_sem, a.e 14 (l 0 rfl), cb b2_0 j 4]) rfl,
  fun f s W j l m q r a => opv rfl rfl (by simp [go_sem, a.e 15 (l 1 rfl)]) rfl,
  fun f s W j l m q r a => opr rfl rfl (by simp [go_sem, a.e 16 (l 2 rfl)]; kernel_rfl),
  fun f s W j l m q r a => opv rfl rfl (by simp [go_sem, a.e 17 (l 3 rfl).1, upd]) rfl, trivial⟩ ?_
 intro f3 s3 W3 hB3 g3 hg3 z3
 obtain ⟨r3_3, br3_3⟩ := hB3.is 3
 have lr3_3 := hB3.lr 3 br3_3
 have k3_1 := kt hg3 1 (kt hg2 1 k1_1)
 have k3_4 := kt hg3 4 (hB3.is 4)
 obtain ⟨bg, hbg⟩ : ∃ b, (s3 3) = b := ⟨_, rfl⟩
 have og0 : Ii W3 (some ⟨bg, 0, none⟩) 3 3 (gotK xs 0) := hbg ▸ ii_block (xs := [0, 0, 0]) br3_3 rfl rfl
 have k4_ : g3 4 = .slice (some ⟨bg, 0, none⟩) 3 3 := hbg ▸ k3_4
 have og1 : bg < W3.heap.size := ii_lt3 og0 (by rw [gotK_len]; decide)
 refine wp_seq_k fun K6 hK6 => ?_
 refine rw_ 3 [(18, 0), (19, 1), (20, 2)] [[], [0], []] (rel [is (.slice al n c), iI ((n : Int)), iI 0])
  ⟨fun f s W j l m q r a => opm (a.v 1 k3_1),
  fun f s W j l m q r a => opv rfl rfl (by simp [go_sem, a.e 18 (l 0 rfl)]) rfl,
  fun f s W j l m q r a => opz, trivial⟩ ?_
 intro f4 s4 W4 hB4 g4 hg4 z4
 have fB4 := hB4.f (hB3.f (hB2.f (hB1.f fB0)))
 have b4_0 := hB4.b (hB3.b b2_0)
 have q2' := (og0.bw hB4)
 have q3' := (hB4.lt og1)
 have k4_1 := kt hg4 1 k3_1
 have k4_2 := kt hg4 2 (kt hg3 2 k2_2)
 have k4_5 := kt hg4 5 (kt hg3 5 (kt hg2 5 (kt hg1 5 (hB1.is 2))))
 have k4_6 := kt hg4 6 (kt hg3 6 (kt hg2 6 (kt hg1 6 (hB1.is 3))))
 have k4_7 := kt hg4 7 (kt hg3 7 (kt hg2 7 (kt hg1 7 (hB1.is 4))))
 have k4_4 := kt hg4 4 k4_
 have k4_18 := kt hg4 18 (hB4.is 0)
 have k4_19 := kt hg4 19 (hB4.is 1)
 have k4_20 := kt hg4 20 (hB4.is 2)
 refine wp_block ?_
 refine wp_loop_n (fun m_ a_ W_ => ∃ g_ : Nat → Value, a_ = fr 72 g_ ∧ (∃ k : Nat, ∃ gq : Nat, ∃ cq : Nat, m_ = n - k ∧ g_ 1 = .slice al n c ∧ g_ 2 = .pointer (some ⟨(s1 0), 0, none⟩) ∧ g_ 6 = .int .i64 0 ∧ g_ 7 = .int .i64 0 ∧ g_ 18 = .slice al n c ∧ g_ 19 = .int .i64 ((n : Int)) ∧ g_ 20 = .int .i64 ((k : Int)) ∧ g_ 4 = .slice (some ⟨gq, 0, none⟩) 3 cq ∧ g_ 5 = .int .i64 ((wasK p os xs k)) ∧ Below w.heap.size w W_ ∧ W4.heap.size ≤ W_.heap.size ∧ W_.heap[(s1 0)]? = some (.cells #[.int .i64 p.wide, .int .i64 p.tlo, .int .i64 p.thi, .int .i64 p.webs, .slice (some ⟨bo, oo, none⟩) 3 co] 110 (0, 0)) ∧ Ii W_ (some ⟨gq, 0, none⟩) 3 cq (gotK xs k) ∧ gq < W_.heap.size ∧ (k ≤ n))) ⟨_, g4, rfl, 0, bg, 3, rfl, k4_1, k4_2, k4_6, k4_7, k4_18, k4_19, k4_20.trans (by rfl), k4_4.trans (by rfl), k4_5.trans (by rfl), fB4, Nat.le_refl _, b4_0, q2', q3', (by omega)⟩ ?_
 rintro _ _ W_4 ⟨g_4, rfl, k, gq, cq, rfl, k_4_1, k_4_2, k_4_6, k_4_7, k_4_18, k_4_19, k_4_20, k_4_4, k_4_5, fB_4, z_4, b_4_0, q5', q6', lk0⟩
 have hwb_ := wasK_bd hp hg k (by omega)
 refine rw_ 1 [(21, 0)] [[]] (rel [iB (decide ((k : Int) < (n : Int)))])
  ⟨fun f s W j l m q r a => opv rfl rfl (by simp [go_sem, a.e 20 k_4_20, a.e 19 k_4_19]) rfl, trivial⟩ ?_
 intro f5 s5 W5 hB5 g5 hg5 z5
 have fB5 := hB5.f fB_4
 have q7' := (q5'.bw hB5)
 have q8' := (hB5.lt q6')
 have k5_18 := kt hg5 18 k_4_18
 have k5_20 := kt hg5 20 k_4_20
 have k5_4 := kt hg5 4 k_4_4
 have k5_5 := kt hg5 5 k_4_5
 have k5_21 := kt hg5 21 (hB5.is 0)
 refine wp_seq_k fun K9 hK9 => ?_
 refine wp_cond_split (t := decide ((k : Int) < (n : Int))) ((fr_eval rfl).trans k5_21) (fun hc10 => ?_) (fun hc10 => ?_)
 ·
  have hc10' := hc10; try simp only [ba] at hc10'
  have hkn : k < n := by omega
  have hrn_ := hg.rn k hkn
  have hlb_ := pat_left hp (hg.pt k hkn)
  obtain ⟨lf_, hlf_⟩ : ∃ x, leftF p os (xs k).1 3 = x := ⟨_, rfl⟩
  rw [hlf_] at hlb_
  have hml_ := tr_mul hlb_ (show 0 ≤ (xs k).2 ∧ (xs k).2 ≤ 30 by omega)
  refine wp_skip ?_
  refine hK9 _ _ ?_
  refine wp_seq_k fun K11 hK11 => ?_
  refine wp_block ?_
  refine wp_seq_k fun K12 hK12 => ?_
  refine ry 5 [(22, 0), (23, 1), (24, 2), (9, 3), (8, 4)] [[], [], [1], [], [0], [0, 1, 2, 3, 4]] (rel [iI ((k : Int)), is (.pointer (some ⟨bq, oq + k * 2, none⟩)), is (.agg #[.slice ((ad k)) ((xs k).1.length) ((cp k)), .int .i64 ((xs k).2)]), bx 3 #[.slice none 0 0, .int .i64 0] 74, iI ((k : Int))])
   ⟨fun f s W j l m q r a => opm (a.v 20 k5_20),
  fun f s W j l m q r a => by have hab := hal (by omega); have li_ := Nat.not_le.2 (show k < n by omega); have li2_ : ((k : Nat) : Int) < (n : Int) := (by omega); exact opv rfl rfl (by simp [go_sem, a.e 18 k5_18, a.e 20 k5_20, hab, li_, li2_]) rfl,
  fun f s W j l m q r a => by have u := bwt fB5 j; have cu_ := (hS.below u).2 k (by omega); have cu0_ := cu_.1; have cu1_ := cu_.2.1; exact opv rfl rfl (by simp [go_sem, a.e 23 (l 1 rfl), cu0_, cu1_]) rfl,
  fun f s W j l m q r a => opb rfl rfl (by simp [go_sem]),
  fun f s W j l m q r a => opm (a.v 22 (l 0 rfl)), trivial⟩ ?_
  intro f6 s6 W6 hB6 g6 hg6 z6
  have fB6 := hB6.f fB5
  have b6_0 := hB6.b (hB5.b b_4_0)
  have q9' := (q7'.bw hB6)
  have q10' := (hB6.lt q8')
  obtain ⟨r6_3, br6_3⟩ := hB6.is 3
  have lr6_3 := hB6.lr 3 br6_3
  have k6_2 := kt hg6 2 (kt hg5 2 k_4_2)
  have k6_24 := kt hg6 24 (hB6.is 2)
  have k6_9 := kt hg6 9 r6_3
  obtain ⟨W7, hW7⟩ : ∃ W', W' = W6.setRow (s6 3) #[.slice ((ad k)) ((xs k).1.length) ((cp k)), .int .i64 ((xs k).2)] := ⟨_, rfl⟩
  refine tsk (o := _) rfl ⟨rfl, rfl⟩ (run_seg hW7 (fr_ev k6_9) (fr_ev k6_24) br6_3 rfl rfl rfl rfl) ?_
  obtain ⟨fB7, nb7, ot7, z7⟩ := sgf hW7 fB6 br6_3 (by omega)
  clear hW7
  have b7_0 := ot7 _ _ (by omega) b6_0
  have q11' := (q9'.other ot7 q10' (by omega) z7)
  have q12' := Nat.lt_of_lt_of_le q10' z7
  refine wpe ?_
  refine hK12 _ _ ?_
  refine rw_ 5 [(25, 0), (26, 1), (27, 2), (28, 3), (10, 4)] [[], [], [1], [0, 2], [3]] (rel [is (.agg #[.int .i64 p.wide, .int .i64 p.tlo, .int .i64 p.thi, .int .i64 p.webs, .slice (some ⟨bo, oo, none⟩) 3 co]), is (.pointer (some ⟨(s6 3), 0, none⟩)), is (.slice ((ad k)) ((xs k).1.length) ((cp k))), iI 0, iI 0])
   ⟨fun f s W j l m q r a => opl rfl rfl rfl (a.v 2 k6_2) (bwb b7_0 j) Try.underlying110 rfl (by kernel_rfl) rfl,
  fun f s W j l m q r a => opv rfl rfl (by simp [go_sem, a.e 9 k6_9]) rfl,
  fun f s W j l m q r a => opv rfl rfl (by simp [go_sem, a.e 26 (l 1 rfl), cb nb7 j 0]) rfl,
  fun f s W j l m q r a => by have u := bwt fB7 j; exact opc rfl rfl (by simp [go_sem, a.e 25 (l 0 rfl), a.e 27 (l 2 rfl)]) (tr_check p os bo oo 3 co (ad k) (xs k).1.length (cp k) (xs k).1 W (hO.below u) hp ho (by decide) ((hS.below u).2 k (by omega)).2.2 (hg.bd k (by omega)) (hg.ln k (by omega)) (hg.pt k (by omega))),
  fun f s W j l m q r a => opm (a.v 28 (l 3 rfl)), trivial⟩ ?_
  intro f8 s8 W8 hB8 g8 hg8 z8
  have q13' := (q11'.bw hB8)
  have q14' := (hB8.lt q12')
  have k8_10 := kt hg8 10 (hB8.is 4)
  refine wp_seq_k fun K14 hK14 => ?_
  refine wp_block ?_
  refine rw_ 3 [(30, 0), (31, 1), (29, 2)] [[], [0], [1]] (rel [iI 0, iB false, iB false])
   ⟨fun f s W j l m q r a => opm (a.v 10 k8_10),
  fun f s W j l m q r a => opv rfl rfl (by simp [go_sem, a.e 30 (l 0 rfl)]) rfl,
  fun f s W j l m q r a => opm (a.v 31 (l 1 rfl)), trivial⟩ ?_
  intro f9 s9 W9 hB9 g9 hg9 z9
  have b9_1 := hB9.b (hB8.b nb7)
  have q15' := (q13'.bw hB9)
  have q16' := (hB9.lt q14')
  have k9_9 := kt hg9 9 (kt hg8 9 k6_9)
  have k9_29 := kt hg9 29 (hB9.is 2)
  refine wp_cond_false ((fr_eval rfl).trans k9_29) ?_
  refine rw_ 6 [(33, 0), (34, 1), (35, 2), (36, 3), (37, 4), (32, 5)] [[], [0], [1], [2], [3], [4]] (rel [is (.pointer (some ⟨(s6 3), 1, none⟩)), iI ((xs k).2), row 2 1 #[.int .i64 ((xs k).2)] 3, iB true, iB false, iB false])
   ⟨fun f s W j l m q r a => opv rfl rfl (by simp [go_sem, a.e 9 k9_9]) rfl,
  fun f s W j l m q r a => opv rfl rfl (by simp [go_sem, a.e 33 (l 0 rfl), cb b9_1 j 1]) rfl,
  fun f s W j l m q r a => opr rfl rfl (by simp [go_sem, a.e 34 (l 1 rfl)]),
  fun f s W j l m q r a => opd (args := #[.int .i64 1, .int .i64 30, .slice (some ⟨(s 2), 0, none⟩) (1) (1)]) rfl rfl (by simp [go_sem, a.e 35 (l 2 rfl).1]) (tr_within_any 1 30 _ 1 1 [(xs k).2] W (ii_block (xs := [(xs k).2]) (l 2 rfl).2 rfl rfl)) ((fun e W' h => by have h1 := h.1; rw [within1_iff.2 (hg.rn k (by omega))] at h1; exact ⟨_, h1, h.2, rfl⟩)),
  fun f s W j l m q r a => opv rfl rfl (by simp [go_sem, a.e 36 (l 3 rfl)]) rfl,
  fun f s W j l m q r a => opm (a.v 37 (l 4 rfl)), trivial⟩ ?_
  intro f10 s10 W10 hB10 g10 hg10 z10
  have fB10 := hB10.f (hB9.f (hB8.f fB7))
  have b10_1 := hB10.b b9_1
  have q17' := (q15'.bw hB10)
  have q18' := (hB10.lt q16')
  obtain ⟨r10_2, br10_2⟩ := hB10.is 2
  have lr10_2 := hB10.lr 2 br10_2
  have k10_1 := kt hg10 1 (kt hg9 1 (kt hg8 1 (kt hg6 1 (kt hg5 1 k_4_1))))
  have k10_9 := kt hg10 9 k9_9
  have k10_8 := kt hg10 8 (kt hg9 8 (kt hg8 8 (kt hg6 8 (hB6.is 4))))
  have k10_32 := kt hg10 32 (hB10.is 5)
  refine wp_cond_false ((fr_eval rfl).trans k10_32) ?_
  refine rw_ 15 [(39, 0), (40, 1), (41, 2), (42, 3), (43, 4), (44, 5), (45, 6), (46, 7), (47, 8), (48, 9), (49, 10), (50, 11), (51, 12), (52, 13), (38, 14)] [[], [0], [1], [2], [2], [2, 4], [2, 3, 5], [2, 6], [2, 7], [2], [2, 9], [2, 8, 10], [2, 11], [2, 12], [13]] (rel [iI ((k : Int)), iB (decide (0 < (k : Int))), iB (decide (0 < (k : Int))), gd (decide (0 < (k : Int))) true (is (.slice al n c)), gd (decide (0 < (k : Int))) true (iI ((k : Int))), gd (decide (0 < (k : Int))) true (iI (((k - 1 : Nat) : Int))), gd (decide (0 < (k : Int))) true (is (.pointer (some ⟨bq, oq + (k - 1) * 2, none⟩))), gd (decide (0 < (k : Int))) true (is (.pointer (some ⟨bq, oq + (k - 1) * 2, none⟩))), gd (decide (0 < (k : Int))) true (is (.slice ((ad (k - 1))) ((xs (k - 1)).1.length) ((cp (k - 1))))), gd (decide (0 < (k : Int))) true (is (.pointer (some ⟨(s6 3), 0, none⟩))), gd (decide (0 < (k : Int))) true (is (.slice ((ad k)) ((xs k).1.length) ((cp k)))), gd (decide (0 < (k : Int))) true (iI (-1)), gd (decide (0 < (k : Int))) true (iB false), iB false, iB false])
   ⟨fun f s W j l m q r a => opm (a.v 8 k10_8),
  fun f s W j l m q r a => opv rfl rfl (by simp [go_sem, a.e 39 (l 0 rfl)]) rfl,
  fun f s W j l m q r a => opm (a.v 40 (l 1 rfl)),
  fun f s W j l m q r a => gdo rfl rfl (a.says (d := 41) rfl rfl (l 2 rfl)) fun hgd0 => gv (by simp [go_sem, a.e 1 k10_1]) rfl,
  fun f s W j l m q r a => gdo rfl rfl (a.says (d := 41) rfl rfl (l 2 rfl)) fun hgd0 => gv (by simp [go_sem, a.e 8 k10_8]) rfl,
  fun f s W j l m q r a => gdo rfl rfl (a.says (d := 41) rfl rfl (l 2 rfl)) fun hgd0 => by have rn_ : (k : Int) - 1 = ((k - 1 : Nat) : Int) := (by have := hgd0; simp at this; omega); have rm_ := IntWalk.i64_in ((k - 1 : Nat) : Int) (by omega); exact gv (by simp [go_sem, a.e 43 ((l 4 rfl).1 hgd0), IntWalk.i64_in ((k : Int) - 1) (by omega), rn_, rm_]) rfl,
  fun f s W j l m q r a => gdo rfl rfl (a.says (d := 41) rfl rfl (l 2 rfl)) fun hgd0 => by have hab := hal (by omega); have li_ := Nat.not_le.2 (show (k - 1) < n by omega); have li2_ : (((k - 1) : Nat) : Int) < (n : Int) := (by omega); exact gv (by simp [go_sem, a.e 42 ((l 3 rfl).1 hgd0), a.e 44 ((l 5 rfl).1 hgd0), hab, li_, li2_]) rfl,
  fun f s W j l m q r a => gdo rfl rfl (a.says (d := 41) rfl rfl (l 2 rfl)) fun hgd0 => gv (by simp [go_sem, a.e 45 ((l 6 rfl).1 hgd0)]) rfl,
  fun f s W j l m q r a => gdo rfl rfl (a.says (d := 41) rfl rfl (l 2 rfl)) fun hgd0 => by have u := bwt fB10 j; have cu_ := (hS.below u).2 (k - 1) (by omega); have cu0_ := cu_.1; have cu1_ := cu_.2.1; exact gv (by simp [go_sem, a.e 46 ((l 7 rfl).1 hgd0), cu0_]) rfl,
  fun f s W j l m q r a => gdo rfl rfl (a.says (d := 41) rfl rfl (l 2 rfl)) fun hgd0 => gv (by simp [go_sem, a.e 9 k10_9]) rfl,
  fun f s W j l m q r a => gdo rfl rfl (a.says (d := 41) rfl rfl (l 2 rfl)) fun hgd0 => gv (by simp [go_sem, a.e 48 ((l 9 rfl).1 hgd0), cb b10_1 j 0]) rfl,
  fun f s W j l m q r a => gdo rfl rfl (a.says (d := 41) rfl rfl (l 2 rfl)) fun hgd0 => by have u := bwt fB10 j; exact gc (by simp [go_sem, a.e 47 ((l 8 rfl).1 hgd0), a.e 49 ((l 10 rfl).1 hgd0)]) (compare_at (hg.lx k (by have := hgd0; simp at this; omega) (by omega)) (hg.ln (k - 1) (by omega)) (hg.ln k (by omega)) W ((hS.below u).2 (k - 1) (by omega)).2.2 ((hS.below u).2 k (by omega)).2.2),
  fun f s W j l m q r a => gdo rfl rfl (a.says (d := 41) rfl rfl (l 2 rfl)) fun hgd0 => gv (by simp [go_sem, a.e 50 ((l 11 rfl).1 hgd0)]) rfl,
  fun f s W j l m q r a => opk (c := decide (0 < (k : Int))) rfl rfl (fun hpk => by first | (simp [go_sem, hpk, a.e 41 (l 2 rfl)]; done) | (have hpk' := hpk; simp at hpk'; simp [go_sem, hpk', hpk, a.e 41 (l 2 rfl)]; done) | (have hpk' := of_decide_eq_false hpk; simp only [Int.ofNat_lt] at hpk'; simp [go_sem, hpk', hpk, a.e 41 (l 2 rfl)])) (fun hpk => by first | (simp [go_sem, hpk, a.e 41 (l 2 rfl), a.e 51 ((l 12 rfl).1 hpk)]; done) | (have hpk' := hpk; simp at hpk'; simp [go_sem, hpk', hpk, a.e 41 (l 2 rfl), a.e 51 ((l 12 rfl).1 hpk)]; done) | (have hpk' := of_decide_eq_false hpk; simp only [Int.ofNat_lt] at hpk'; simp [go_sem, hpk', hpk, a.e 41 (l 2 rfl), a.e 51 ((l 12 rfl).1 hpk)])),
  fun f s W j l m q r a => opm (a.v 52 (l 13 rfl)), trivial⟩ ?_
  intro f11 s11 W11 hB11 g11 hg11 z11
  have q19' := (q17'.bw hB11)
  have q20' := (hB11.lt q18')
  have k11_10 := kt hg11 10 (kt hg10 10 (kt hg9 10 k8_10))
  have k11_38 := kt hg11 38 (hB11.is 14)
  refine wp_cond_false ((fr_eval rfl).trans k11_38) ?_
  refine wp_skip ?_
  refine ibn ?_
  refine hK14 _ _ ?_
  refine wp_seq_k fun K21 hK21 => ?_
  refine rw_ 2 [(53, 0), (54, 1)] [[], [0]] (rel [iI 0, iB false])
   ⟨fun f s W j l m q r a => opm (a.v 10 k11_10),
  fun f s W j l m q r a => opv rfl rfl (by simp [go_sem, a.e 53 (l 0 rfl)]) rfl, trivial⟩ ?_
  intro f12 s12 W12 hB12 g12 hg12 z12
  have fB12 := hB12.f (hB11.f fB10)
  have b12_0 := hB12.b (hB11.b (hB10.b (hB9.b (hB8.b b7_0))))
  have b12_1 := hB12.b (hB11.b b10_1)
  have q21' := (q19'.bw hB12)
  have q22' := (hB12.lt q20')
  have k12_2 := kt hg12 2 (kt hg11 2 (kt hg10 2 (kt hg9 2 (kt hg8 2 k6_2))))
  have k12_4 := kt hg12 4 (kt hg11 4 (kt hg10 4 (kt hg9 4 (kt hg8 4 (kt hg6 4 k5_4)))))
  have k12_5 := kt hg12 5 (kt hg11 5 (kt hg10 5 (kt hg9 5 (kt hg8 5 (kt hg6 5 k5_5)))))
  have k12_9 := kt hg12 9 (kt hg11 9 k10_9)
  have k12_54 := kt hg12 54 (hB12.is 1)
  refine wp_cond_false ((fr_eval rfl).trans k12_54) ?_
  refine wp_skip ?_
  refine hK21 _ _ ?_
  refine rz 14 [(57, 0), (58, 1), (59, 2), (60, 3), (61, 4), (62, 5), (63, 6), (64, 7), (65, 8), (66, 9), (67, 10), (68, 11), (4, 12), (5, 13)] [[], [], [0, 1], [], [], [], [5], [4, 6], [], [8], [7, 9], [3, 10], [0, 2], [3, 11]] (rel [is (.slice (some ⟨gq, 0, none⟩) 3 cq), is (.agg #[.slice ((ad k)) ((xs k).1.length) ((cp k)), .int .i64 ((xs k).2)]), ab fun v W => IsG (gotK xs (k + 1)) v W, iI ((wasK p os xs k)), is (.agg #[.int .i64 p.wide, .int .i64 p.tlo, .int .i64 p.thi, .int .i64 p.webs, .slice (some ⟨bo, oo, none⟩) 3 co]), is (.pointer (some ⟨(s6 3), 0, none⟩)), is (.slice ((ad k)) ((xs k).1.length) ((cp k))), iI lf_, is (.pointer (some ⟨(s6 3), 1, none⟩)), iI ((xs k).2), iI (lf_ * ((xs k).2)), iI ((wasK p os xs k) + (lf_ * ((xs k).2))), ab fun v W => IsG (gotK xs (k + 1)) v W, iI ((wasK p os xs k) + (lf_ * ((xs k).2)))])
   ⟨is_k, is_k, ab_k fun v W W' hb h => (h.below hb), is_k, is_k, is_k, is_k, is_k, is_k, is_k, is_k, is_k, ab_k fun v W W' hb h => (h.below hb), is_k, trivial⟩
   ⟨fun f s W j l m q r a => opm (a.v 4 ((q 12 4 rfl rfl).trans k12_4)),
  fun f s W j l m q r a => opv rfl rfl (by simp [go_sem, a.e 9 k12_9, cb b12_1 j 0, cb b12_1 j 1]) rfl,
  fun f s W j l m q r a => by have u := bwt fB12 j; exact opd rfl rfl (by simp [go_sem, a.e 57 (l 0 rfl), a.e 58 (l 1 rfl)]) (add_any (some ⟨gq, 0, none⟩) 3 cq (gotK xs k) (ad k) (xs k).1.length (cp k) (xs k).1 (xs k).2 W ((q21'.below j (Nat.le_refl _))) ((hS.below u).2 k (by omega)).2.2 (by decide) (by have := hg.ln k (by omega); omega) (fun i => by have := gotK_bd hg k (by omega) i; omega) (getD_bd (hg.bd k (by omega)) (by decide)) (by have := hg.rn k (by omega); omega)) ((fun e W' h => by obtain ⟨v, e1, ⟨g_, c_, e2, h3⟩, h2⟩ := h; rw [hg.ln k (by omega)] at h3; exact ⟨_, e1, h2, ⟨g_, c_, e2, by have h4 := h3.ii; rw [addK_len, gotK_len] at h4; exact h4, h3.2.1⟩⟩)),
  fun f s W j l m q r a => opm (a.v 5 ((q 13 5 rfl rfl).trans k12_5)),
  fun f s W j l m q r a => opl rfl rfl rfl (a.v 2 k12_2) (bwb b12_0 j) Try.underlying110 rfl (by kernel_rfl) rfl,
  fun f s W j l m q r a => opv rfl rfl (by simp [go_sem, a.e 9 k12_9]) rfl,
  fun f s W j l m q r a => opv rfl rfl (by simp [go_sem, a.e 62 (l 5 rfl), cb b12_1 j 0]) rfl,
  fun f s W j l m q r a => by have u := bwt fB12 j; exact opd rfl rfl (by simp [go_sem, a.e 61 (l 4 rfl), a.e 63 (l 6 rfl)]) (trim_any p os bo oo 3 co (ad k) (xs k).1.length (cp k) (xs k).1 W (hO.below u) hp ho (by decide) ((hS.below u).2 k (by omega)).2.2 (hg.bd k (by omega)) (by have := hg.ln k (by omega); omega)) ((fun e W' h => by have h1 := h.1; rw [hg.ln k (by omega), hlf_] at h1; exact ⟨_, h1, h.2, rfl⟩)),
  fun f s W j l m q r a => opv rfl rfl (by simp [go_sem, a.e 9 k12_9]) rfl,
  fun f s W j l m q r a => opv rfl rfl (by simp [go_sem, a.e 65 (l 8 rfl), cb b12_1 j 1]) rfl,
  fun f s W j l m q r a => opv rfl rfl (by simp [go_sem, a.e 64 (l 7 rfl), a.e 66 (l 9 rfl), IntWalk.i64_in (lf_ * ((xs k).2)) (by omega)]) rfl,
  fun f s W j l m q r a => opv rfl rfl (by simp [go_sem, a.e 60 (l 3 rfl), a.e 67 (l 10 rfl), IntWalk.i64_in ((wasK p os xs k) + (lf_ * ((xs k).2))) (by omega)]) rfl,
  fun f s W j l m q r a => opv (v := (f 2)) rfl rfl (by simp [go_sem, (a.at' 59 rfl : r.tmps[59]?.getD undef = f 2)] <;> rfl) (l 2 rfl),
  fun f s W j l m q r a => opm (a.v 68 (l 11 rfl)), trivial⟩ ?_
  intro f13 s13 W13 hB13 g13 hg13 z13
  have q27' := (q21'.bw hB13)
  have q28' := (hB13.lt q22')
  obtain ⟨g29', c30', r13_12, q31', q32'⟩ := hB13.is 12
  refine wpe ?_
  have k13_20 := kt hg13 20 (kt hg12 20 (kt hg11 20 (kt hg10 20 (kt hg9 20 (kt hg8 20 (kt hg6 20 k5_20))))))
  refine ibn ?_
  refine hK11 _ _ ?_
  refine ry 2 [(69, 0), (20, 1)] [[], [0]] (rel [iI ((k : Int) + 1), iI ((k : Int) + 1)])
   ⟨fun f s W j l m q r a => opv rfl rfl (by simp [go_sem, a.e 20 ((q 1 20 rfl rfl).trans k13_20), IntWalk.i64_in ((k : Int) + 1) (by omega)]) rfl,
  fun f s W j l m q r a => opm (a.v 69 (l 0 rfl)), trivial⟩ ?_
  intro f14 s14 W14 hB14 g14 hg14 z14
  have fB14 := hB14.f (hB13.f fB12)
  have b14_0 := hB14.b (hB13.b b12_0)
  have q33' := (q27'.bw hB14)
  have q34' := (hB14.lt q28')
  have q35' := (q31'.bw hB14)
  have q36' := (hB14.lt q32')
  refine wpe ?_
  have k14_1 := kt hg14 1 (kt hg13 1 (kt hg12 1 (kt hg11 1 k10_1)))
  have k14_2 := kt hg14 2 (kt hg13 2 k12_2)
  have k14_6 := kt hg14 6 (kt hg13 6 (kt hg12 6 (kt hg11 6 (kt hg10 6 (kt hg9 6 (kt hg8 6 (kt hg6 6 (kt hg5 6 k_4_6))))))))
  have k14_7 := kt hg14 7 (kt hg13 7 (kt hg12 7 (kt hg11 7 (kt hg10 7 (kt hg9 7 (kt hg8 7 (kt hg6 7 (kt hg5 7 k_4_7))))))))
  have k14_18 := kt hg14 18 (kt hg13 18 (kt hg12 18 (kt hg11 18 (kt hg10 18 (kt hg9 18 (kt hg8 18 (kt hg6 18 k5_18)))))))
  have k14_19 := kt hg14 19 (kt hg13 19 (kt hg12 19 (kt hg11 19 (kt hg10 19 (kt hg9 19 (kt hg8 19 (kt hg6 19 (kt hg5 19 k_4_19))))))))
  have k14_4 := kt hg14 4 (kt hg13 4 r13_12)
  have k14_5 := kt hg14 5 (kt hg13 5 (hB13.is 13))
  have k14_20 := kt hg14 20 (hB14.is 1)
  refine then_normal ?_
  exact ⟨_, by omega, g14, rfl, k + 1, g29', c30', rfl, k14_1, k14_2, k14_6, k14_7, k14_18, k14_19, k14_20.trans (by go_num), k14_4.trans (by go_num), k14_5.trans (by rw [wasK, hlf_]), fB14, (by omega), b14_0, q35', q36', (by omega)⟩
 ·
  have hc10' := hc10; try simp only [ba] at hc10'
  have hkn : k = n := by omega
  refine wp_exit ?_
  refine then_exit ?_
  refine then_exit ?_
  refine inBlock_at ?_
  refine hK6 _ _ ?_
  refine rw_ 6 [(70, 0), (71, 1), (4, 2), (5, 3), (6, 4), (7, 5)] [[], [], [0], [1], [], []] (rel [is (.slice (some ⟨gq, 0, none⟩) 3 cq), iI ((wasK p os xs k)), is (.slice (some ⟨gq, 0, none⟩) 3 cq), iI ((wasK p os xs k)), iI 0, iI 0])
   ⟨fun f s W j l m q r a => opm (a.v 4 ((q 2 4 rfl rfl).trans k5_4)),
  fun f s W j l m q r a => opm (a.v 5 ((q 3 5 rfl rfl).trans k5_5)),
  fun f s W j l m q r a => opm (a.v 70 (l 0 rfl)),
  fun f s W j l m q r a => opm (a.v 71 (l 1 rfl)),
  fun f s W j l m q r a => opz,
  fun f s W j l m q r a => opz, trivial⟩ ?_
  intro f15 s15 W15 hB15 g15 hg15 z15
  have fB15 := hB15.f fB5
  have q37' := (q7'.bw hB15)
  have q38' := (hB15.lt q8')
  have k15_4 := kt hg15 4 (hB15.is 2)
  have k15_5 := kt hg15 5 (hB15.is 3)
  have k15_6 := kt hg15 6 (hB15.is 4)
  have k15_7 := kt hg15 7 (hB15.is 5)
  refine wp_ret ?_
  refine leave_gen (v := .tuple #[.slice (some ⟨gq, 0, none⟩) 3 cq, .int .i64 ((wasK p os xs k)), .int .i64 0, .int .i64 0]) (.inr rfl) (by simp [results, Try.results78, go_sem, frv 72 k15_4, frv 72 k15_5, frv 72 k15_6, frv 72 k15_7]) ?_
  subst hkn
  exact ⟨_, rfl, ⟨_, _, rfl, q37', q38'⟩, fB15⟩
theorem does_ok (p : Tp) (os : Nat → To) (bo oo co : Nat) (n c bq oq : Nat) (al : Option Addr) (xs : Nat → List Int × Int) (ad : Nat → Option Addr) (cp : Nat → Nat) (w : World) (hO : OrdR w bo oo 3 os) (hp : TpIn p) (ho : ∀ i, i < 3 → ToIn (os i)) (hal : 0 < n → al = some ⟨bq, oq, none⟩) (hS : SuR w bq oq n xs ad cp) (hg : GetOk p os n xs) (hwr : wrF os (gotK xs n) 3 0 = -1) :
  Calls Try.prog 37 #[.agg #[.int .i64 p.wide, .int .i64 p.tlo, .int .i64 p.thi, .int .i64 p.webs, .slice (some ⟨bo, oo, none⟩) 3 co], .slice al n c] w (fun e w' => ∃ v, e = .returned (.tuple #[v, .int .i64 (wasK p os xs n), .int .i64 0, .int .i64 0]) ∧ IsG (gotK xs n) v w' ∧ Below w.heap.size w w') := by
 refine calls_fr Try.func37 Try.ntmps37 rfl rfl fun g hg => ?_
 have k0 : g 0 = .agg #[.int .i64 p.wide, .int .i64 p.tlo, .int .i64 p.thi, .int .i64 p.webs, .slice (some ⟨bo, oo, none⟩) 3 co] := hg 0
 have k1 : g 1 = .slice al n c := hg 1
 clear hg
 have fB0 : Below w.heap.size w w := Below.refl _ _
 refine rw_ 5 [(2, 0), (4, 1), (5, 2), (6, 3), (7, 4)] [[], [], [], [], []] (rel [bx 0 #[.int .i64 p.wide, .int .i64 p.tlo, .int .i64 p.thi, .int .i64 p.webs, .slice (some ⟨bo, oo, none⟩) 3 co] 110, is (.slice none 0 0), iI 0, iI 0, iI 0])
  ⟨fun f s W d j k l m a => opb rfl rfl (by simp [go_sem, a.e 0 k0]),
  fun f s W d j k l m a => opv rfl rfl (by simp [go_sem]) rfl,
  fun f s W d j k l m a => opz,
  fun f s W d j k l m a => opz,
  fun f s W d j k l m a => opz, trivial⟩ ?_
 intro f1 s1 W1 hB1 g1 hg1 z1
 have fB1 := hB1.f fB0
 obtain ⟨r1_0, br1_0⟩ := hB1.is 0
 have lr1_0 := hB1.lr 0 br1_0
 have k1_1 := kt hg1 1 k1
 have k1_2 := kt hg1 2 r1_0
 refine wp_seq_k fun K2 hK2 => ?_
 refine rx 12 [(10, 0), (11, 1), (12, 2), (9, 3), (13, 4), (14, 5), (15, 6), (16, 7), (4, 8), (5, 9), (6, 10), (7, 11)] [[], [], [0, 1], [0, 1, 2], [0, 1, 2, 3], [0, 1, 2, 3], [0, 1, 2, 3], [0, 1, 2, 3], [0, 1, 2, 3, 4], [0, 1, 2, 3, 4, 5, 8], [0, 1, 2, 3, 4, 5, 6, 8, 9], [0, 1, 2, 3, 4, 5, 6, 7, 8, 9, 10]] (rel [is (.agg #[.int .i64 p.wide, .int .i64 p.tlo, .int .i64 p.thi, .int .i64 p.webs, .slice (some ⟨bo, oo, none⟩) 3 co]),
   is (.slice al n c),
   ab fun v W => ∃ x0, v = .tuple #[x0, .int .i64 ((wasK p os xs n)), .int .i64 0, .int .i64 0] ∧ IsG (gotK xs n) x0 W,
   ab fun v W => ∃ x0, v = .tuple #[x0, .int .i64 ((wasK p os xs n)), .int .i64 0, .int .i64 0] ∧ IsG (gotK xs n) x0 W,
   ab fun v W => IsG (gotK xs n) v W,
   is (.int .i64 ((wasK p os xs n))),
   is (.int .i64 0),
   is (.int .i64 0),
   ab fun v W => IsG (gotK xs n) v W,
   is (.int .i64 ((wasK p os xs n))),
   is (.int .i64 0),
   is (.int .i64 0)])
  ⟨is_k, is_k, ab_k fun v W W' hb ⟨x0, e, h0⟩ => ⟨x0, e, (h0.below hb)⟩, ab_k fun v W W' hb ⟨x0, e, h0⟩ => ⟨x0, e, (h0.below hb)⟩, ab_k fun v W W' hb h => (h.below hb), is_k, is_k, is_k, ab_k fun v W W' hb h => (h.below hb), is_k, is_k, is_k, trivial⟩
  ⟨fun f s W d j k l m a => opl rfl rfl rfl (a.v 2 k1_2) (bwb br1_0 d) Try.underlying110 rfl (by kernel_rfl) rfl,
  fun f s W d j k l m a => opv rfl rfl (by simp [go_sem, a.e 1 k1_1]) rfl,
  fun f s W d j k l m a => by have o := bwt fB1 d; exact opd rfl rfl (by simp [go_sem, a.e 10 (j 0 rfl), a.e 11 (j 1 rfl)]) (get_ok p os bo oo co n c bq oq al xs ad cp W (hO.below o) hp ho hal (hS.below o) hg) ((fun e W' h => by obtain ⟨v, e1, h1, h2⟩ := h; exact ⟨_, e1, h2, ⟨v, rfl, h1⟩⟩)),
  fun f s W d j k l m a => opv (v := (f 2)) rfl rfl (by simp [go_sem, (a.at' 12 rfl : m.tmps[12]?.getD undef = f 2)] <;> rfl) (j 2 rfl),
  fun f s W d j k l m a => by obtain ⟨x3_0, d3, p3_0⟩ := (j 3 rfl); exact opv (v := x3_0) rfl rfl (by simp [go_sem, a.e 9 d3]) p3_0,
  fun f s W d j k l m a => by obtain ⟨x3_0, d3, p3_0⟩ := (j 3 rfl); exact opv rfl rfl (by simp [go_sem, a.e 9 d3]) rfl,
  fun f s W d j k l m a => by obtain ⟨x3_0, d3, p3_0⟩ := (j 3 rfl); exact opv rfl rfl (by simp [go_sem, a.e 9 d3]) rfl,
  fun f s W d j k l m a => by obtain ⟨x3_0, d3, p3_0⟩ := (j 3 rfl); exact opv rfl rfl (by simp [go_sem, a.e 9 d3]) rfl,
  fun f s W d j k l m a => opv (v := (f 4)) rfl rfl (by simp [go_sem, (a.at' 13 rfl : m.tmps[13]?.getD undef = f 4)] <;> rfl) (j 4 rfl),
  fun f s W d j k l m a => opv rfl rfl (by simp [go_sem, a.e 14 (j 5 rfl)]) rfl,
  fun f s W d j k l m a => opv rfl rfl (by simp [go_sem, a.e 15 (j 6 rfl)]) rfl,
  fun f s W d j k l m a => opv rfl rfl (by simp [go_sem, a.e 16 (j 7 rfl)]) rfl, trivial⟩ ?_
 intro f2 s2 W2 hB2 g2 hg2 z2
 obtain ⟨g43', c44', r2_8, q45', q46'⟩ := hB2.is 8
 have k2_7 := kt hg2 7 (hB2.is 11)
 refine rw_ 2 [(17, 0), (18, 1)] [[], [0]] (rel [iI 0, iB false])
  ⟨fun f s W d j k l m a => opm (a.v 7 k2_7),
  fun f s W d j k l m a => opv rfl rfl (by simp [go_sem, a.e 17 (j 0 rfl)]) rfl, trivial⟩ ?_
 intro f3 s3 W3 hB3 g3 hg3 z3
 have fB3 := hB3.f (hB2.f fB1)
 have b3_0 := hB3.b (hB2.b br1_0)
 have q47' := (q45'.bw hB3)
 have q48' := (hB3.lt q46')
 have k3_2 := kt hg3 2 (kt hg2 2 k1_2)
 have k3_4 := kt hg3 4 (kt hg2 4 r2_8)
 have k3_18 := kt hg3 18 (hB3.is 1)
 refine wp_cond_false ((fr_eval rfl).trans k3_18) ?_
 refine wp_skip ?_
 refine hK2 _ _ ?_
 refine wp_seq_k fun K6 hK6 => ?_
 refine rw_ 4 [(21, 0), (22, 1), (23, 2), (8, 3)] [[], [], [0, 1], [2]] (rel [is (.agg #[.int .i64 p.wide, .int .i64 p.tlo, .int .i64 p.thi, .int .i64 p.webs, .slice (some ⟨bo, oo, none⟩) 3 co]), is (.slice (some ⟨g43', 0, none⟩) 3 c44'), iI (-1), iI (-1)])
  ⟨fun f s W d j k l m a => opl rfl rfl rfl (a.v 2 k3_2) (bwb b3_0 d) Try.underlying110 rfl (by kernel_rfl) rfl,
  fun f s W d j k l m a => opm (a.v 4 k3_4),
  fun f s W d j k l m a => by have o := bwt fB3 d; exact opd rfl rfl (by simp [go_sem, a.e 21 (j 0 rfl), a.e 22 (j 1 rfl)]) (wrong_any p os bo oo 3 co (some ⟨g43', 0, none⟩) 3 c44' (gotK xs n) W (hO.below o) (by decide) ((q47'.below d (Nat.le_refl _))) rfl) ((fun e W' h => by have h1 := h.1; rw [hwr] at h1; exact ⟨_, h1, h.2, rfl⟩)),
  fun f s W d j k l m a => opm (a.v 23 (j 2 rfl)), trivial⟩ ?_
 intro f4 s4 W4 hB4 g4 hg4 z4
 have q49' := (q47'.bw hB4)
 have q50' := (hB4.lt q48')
 have k4_8 := kt hg4 8 (hB4.is 3)
 refine rw_ 2 [(24, 0), (25, 1)] [[], [0]] (rel [iI (-1), iB false])
  ⟨fun f s W d j k l m a => opm (a.v 8 k4_8),
  fun f s W d j k l m a => opv rfl rfl (by simp [go_sem, a.e 24 (j 0 rfl)]) rfl, trivial⟩ ?_
 intro f5 s5 W5 hB5 g5 hg5 z5
 have q51' := (q49'.bw hB5)
 have q52' := (hB5.lt q50')
 have k5_4 := kt hg5 4 (kt hg4 4 k3_4)
 have k5_5 := kt hg5 5 (kt hg4 5 (kt hg3 5 (kt hg2 5 (hB2.is 9))))
 have k5_25 := kt hg5 25 (hB5.is 1)
 refine wp_cond_false ((fr_eval rfl).trans k5_25) ?_
 refine wp_skip ?_
 refine hK6 _ _ ?_
 refine rw_ 6 [(27, 0), (28, 1), (4, 2), (5, 3), (6, 4), (7, 5)] [[], [], [0], [1], [], []] (rel [is (.slice (some ⟨g43', 0, none⟩) 3 c44'), iI ((wasK p os xs n)), is (.slice (some ⟨g43', 0, none⟩) 3 c44'), iI ((wasK p os xs n)), iI 0, iI 0])
  ⟨fun f s W d j k l m a => opm (a.v 4 ((l 2 4 rfl rfl).trans k5_4)),
  fun f s W d j k l m a => opm (a.v 5 ((l 3 5 rfl rfl).trans k5_5)),
  fun f s W d j k l m a => opm (a.v 27 (j 0 rfl)),
  fun f s W d j k l m a => opm (a.v 28 (j 1 rfl)),
  fun f s W d j k l m a => opz,
  fun f s W d j k l m a => opz, trivial⟩ ?_
 intro f6 s6 W6 hB6 g6 hg6 z6
 have fB6 := hB6.f (hB5.f (hB4.f fB3))
 have q53' := (q51'.bw hB6)
 have q54' := (hB6.lt q52')
 have k6_4 := kt hg6 4 (hB6.is 2)
 have k6_5 := kt hg6 5 (hB6.is 3)
 have k6_6 := kt hg6 6 (hB6.is 4)
 have k6_7 := kt hg6 7 (hB6.is 5)
 refine wp_ret ?_
 refine leave_gen (v := .tuple #[.slice (some ⟨g43', 0, none⟩) 3 c44', .int .i64 ((wasK p os xs n)), .int .i64 0, .int .i64 0]) (.inr rfl) (by simp [results, Try.results37, go_sem, frv 29 k6_4, frv 29 k6_5, frv 29 k6_6, frv 29 k6_7]) ?_
 exact ⟨_, rfl, ⟨_, _, rfl, q53', q54'⟩, fB6⟩
theorem tr_Get (p : Tp) (os : Nat → To) (bo oo co : Nat) (n c bq oq : Nat) (al : Option Addr) (xs : Nat → List Int × Int) (ad : Nat → Option Addr) (cp : Nat → Nat) (w : World) (hO : OrdR w bo oo 3 os) (hp : TpIn p) (ho : ∀ i, i < 3 → ToIn (os i)) (hal : 0 < n → al = some ⟨bq, oq, none⟩) (hS : SuR w bq oq n xs ad cp) (hg : GetOk p os n xs) (hwr : wrF os (gotK xs n) 3 0 = -1) :
  Calls Try.prog 15 #[.agg #[.int .i64 p.wide, .int .i64 p.tlo, .int .i64 p.thi, .int .i64 p.webs], .slice (some ⟨bo, oo, none⟩) 3 co, .slice al n c] w (fun e w' => ∃ v, e = .returned (.tuple #[v, .int .i64 (wasK p os xs n), .int .i64 0, .int .i64 0]) ∧ IsG (gotK xs n) v w' ∧ Below w.heap.size w w') := by
 refine calls_fr Try.func15 Try.ntmps15 rfl rfl fun g hg => ?_
 have k0 : g 0 = .agg #[.int .i64 p.wide, .int .i64 p.tlo, .int .i64 p.thi, .int .i64 p.webs] := hg 0
 have k1 : g 1 = .slice (some ⟨bo, oo, none⟩) 3 co := hg 1
 have k2 : g 2 = .slice al n c := hg 2
 clear hg
 have fB0 : Below w.heap.size w w := Below.refl _ _
 refine rw_ 5 [(3, 0), (6, 1), (7, 2), (8, 3), (9, 4)] [[], [], [], [], []] (rel [bx 0 #[.int .i64 p.wide, .int .i64 p.tlo, .int .i64 p.thi, .int .i64 p.webs] 61, is (.slice none 0 0), iI 0, iI 0, iI 0])
  ⟨fun f s W d j k l m a => opb rfl rfl (by simp [go_sem, a.e 0 k0]),
  fun f s W d j k l m a => opv rfl rfl (by simp [go_sem]) rfl,
  fun f s W d j k l m a => opz,
  fun f s W d j k l m a => opz,
  fun f s W d j k l m a => opz, trivial⟩ ?_
 intro f1 s1 W1 hB1 g1 hg1 z1
 have fB1 := hB1.f fB0
 obtain ⟨r1_0, br1_0⟩ := hB1.is 0
 have lr1_0 := hB1.lr 0 br1_0
 have k1_1 := kt hg1 1 k1
 have k1_3 := kt hg1 3 r1_0
 refine wp_seq_k fun K2 hK2 => ?_
 refine ry 7 [(12, 0), (13, 1), (14, 2), (11, 3), (15, 4), (16, 5), (10, 6), (9, 8)] [[], [], [0, 1], [2], [3], [3], [], [0, 1, 2, 3, 4, 6], [0, 1, 2, 3, 4, 5, 6, 7]] (rel [is (.agg #[.int .i64 p.wide, .int .i64 p.tlo, .int .i64 p.thi, .int .i64 p.webs]), is (.slice (some ⟨bo, oo, none⟩) 3 co), is (.tuple #[.agg #[.int .i64 p.wide, .int .i64 p.tlo, .int .i64 p.thi, .int .i64 p.webs, .slice (some ⟨bo, oo, none⟩) 3 co], .int .i64 0]), is (.tuple #[.agg #[.int .i64 p.wide, .int .i64 p.tlo, .int .i64 p.thi, .int .i64 p.webs, .slice (some ⟨bo, oo, none⟩) 3 co], .int .i64 0]), is (.agg #[.int .i64 p.wide, .int .i64 p.tlo, .int .i64 p.thi, .int .i64 p.webs, .slice (some ⟨bo, oo, none⟩) 3 co]), iI 0, bx 6 #[.int .i64 0, .int .i64 0, .int .i64 0, .int .i64 0, .slice none 0 0] 110])
  ⟨fun f s W d j k l m a => opl rfl rfl rfl (a.v 3 k1_3) (bwb br1_0 d) Try.underlying61 rfl (by kernel_rfl) rfl,
  fun f s W d j k l m a => opm (a.v 1 k1_1),
  fun f s W d j k l m a => by have q := bwt fB1 d; exact opc rfl rfl (by simp [go_sem, a.e 12 (j 0 rfl), a.e 13 (j 1 rfl)]) (tr_open p os bo oo 3 co W (hO.below q) hp ho (by decide)),
  fun f s W d j k l m a => opm (a.v 14 (j 2 rfl)),
  fun f s W d j k l m a => opv rfl rfl (by simp [go_sem, a.e 11 (j 3 rfl)]) rfl,
  fun f s W d j k l m a => opv rfl rfl (by simp [go_sem, a.e 11 (j 3 rfl)]) rfl,
  fun f s W d j k l m a => opb rfl rfl (by simp [go_sem]), trivial⟩ ?_
 intro f2 s2 W2 hB2 g2 hg2 z2
 have fB2 := hB2.f fB1
 obtain ⟨r2_6, br2_6⟩ := hB2.is 6
 have lr2_6 := hB2.lr 6 br2_6
 have k2_15 := kt hg2 15 (hB2.is 4)
 have k2_16 := kt hg2 16 (hB2.is 5)
 have k2_10 := kt hg2 10 r2_6
 obtain ⟨W3, hW3⟩ : ∃ W', W' = W2.setRow (s2 6) #[.int .i64 p.wide, .int .i64 p.tlo, .int .i64 p.thi, .int .i64 p.webs, .slice (some ⟨bo, oo, none⟩) 3 co] := ⟨_, rfl⟩
 refine tsk (o := _) rfl ⟨rfl, rfl⟩ (run_seg hW3 (fr_ev k2_10) (fr_ev k2_15) br2_6 rfl rfl rfl rfl) ?_
 obtain ⟨fB3, nb3, ot3, z3⟩ := sgf hW3 fB2 br2_6 (by omega)
 clear hW3
 refine tail_value (o := _) rfl rfl rfl (v := .int .i64 0) (by simp [go_sem, frv 27 k2_16]) ?_
 generalize hg4 : upd g2 9 (.int .i64 0) = g4
 have k4_9 := kt hg4 9 (upd_same _ _ _)
 refine wpe ?_
 refine hK2 _ _ ?_
 refine wp_seq_k fun K3 hK3 => ?_
 refine rw_ 2 [(17, 0), (18, 1)] [[], [0]] (rel [iI 0, iB false])
  ⟨fun f s W d j k l m a => opm (a.v 9 k4_9),
  fun f s W d j k l m a => opv rfl rfl (by simp [go_sem, a.e 17 (j 0 rfl)]) rfl, trivial⟩ ?_
 intro f5 s5 W5 hB5 g5 hg5 z5
 have fB5 := hB5.f fB3
 have b5_1 := hB5.b nb3
 have k5_2 := kt hg5 2 (ku hg4 2 (kt hg2 2 (kt hg1 2 k2)))
 have k5_10 := kt hg5 10 (ku hg4 10 k2_10)
 have k5_18 := kt hg5 18 (hB5.is 1)
 refine wp_cond_false ((fr_eval rfl).trans k5_18) ?_
 refine wp_skip ?_
 refine hK3 _ _ ?_
 refine rx 11 [(20, 0), (21, 1), (22, 2), (23, 3), (24, 4), (25, 5), (26, 6), (6, 7), (7, 8), (8, 9), (9, 10)] [[], [], [0, 1], [0, 1, 2], [0, 1, 2], [0, 1, 2], [0, 1, 2], [0, 1, 2, 3, 4, 5, 6], [0, 1, 2, 3, 4, 5, 6, 7], [0, 1, 2, 3, 4, 5, 6, 7, 8], [0, 1, 2, 3, 4, 5, 6, 7, 8, 9]] (rel [is (.agg #[.int .i64 p.wide, .int .i64 p.tlo, .int .i64 p.thi, .int .i64 p.webs, .slice (some ⟨bo, oo, none⟩) 3 co]),
   is (.slice al n c),
   ab fun v W => ∃ x0, v = .tuple #[x0, .int .i64 ((wasK p os xs n)), .int .i64 0, .int .i64 0] ∧ IsG (gotK xs n) x0 W,
   ab fun v W => IsG (gotK xs n) v W,
   is (.int .i64 ((wasK p os xs n))),
   is (.int .i64 0),
   is (.int .i64 0),
   ab fun v W => IsG (gotK xs n) v W,
   is (.int .i64 ((wasK p os xs n))),
   is (.int .i64 0),
   is (.int .i64 0)])
  ⟨is_k, is_k, ab_k fun v W W' hb ⟨x0, e, h0⟩ => ⟨x0, e, (h0.below hb)⟩, ab_k fun v W W' hb h => (h.below hb), is_k, is_k, is_k, ab_k fun v W W' hb h => (h.below hb), is_k, is_k, is_k, trivial⟩
  ⟨fun f s W d j k l m a => opl rfl rfl rfl (a.v 10 k5_10) (bwb b5_1 d) Try.underlying110 rfl (by kernel_rfl) rfl,
  fun f s W d j k l m a => opv rfl rfl (by simp [go_sem, a.e 2 k5_2]) rfl,
  fun f s W d j k l m a => by have q := bwt fB5 d; exact opd rfl rfl (by simp [go_sem, a.e 20 (j 0 rfl), a.e 21 (j 1 rfl)]) (does_ok p os bo oo co n c bq oq al xs ad cp W (hO.below q) hp ho hal (hS.below q) hg hwr) ((fun e W' h => by obtain ⟨v, e1, h1, h2⟩ := h; exact ⟨_, e1, h2, ⟨v, rfl, h1⟩⟩)),
  fun f s W d j k l m a => by obtain ⟨x2_0, d2, p2_0⟩ := (j 2 rfl); exact opv (v := x2_0) rfl rfl (by simp [go_sem, a.e 22 d2]) p2_0,
  fun f s W d j k l m a => by obtain ⟨x2_0, d2, p2_0⟩ := (j 2 rfl); exact opv rfl rfl (by simp [go_sem, a.e 22 d2]) rfl,
  fun f s W d j k l m a => by obtain ⟨x2_0, d2, p2_0⟩ := (j 2 rfl); exact opv rfl rfl (by simp [go_sem, a.e 22 d2]) rfl,
  fun f s W d j k l m a => by obtain ⟨x2_0, d2, p2_0⟩ := (j 2 rfl); exact opv rfl rfl (by simp [go_sem, a.e 22 d2]) rfl,
  fun f s W d j k l m a => opv (v := (f 3)) rfl rfl (by simp [go_sem, (a.at' 23 rfl : m.tmps[23]?.getD undef = f 3)] <;> rfl) (j 3 rfl),
  fun f s W d j k l m a => opv rfl rfl (by simp [go_sem, a.e 24 (j 4 rfl)]) rfl,
  fun f s W d j k l m a => opv rfl rfl (by simp [go_sem, a.e 25 (j 5 rfl)]) rfl,
  fun f s W d j k l m a => opv rfl rfl (by simp [go_sem, a.e 26 (j 6 rfl)]) rfl, trivial⟩ ?_
 intro f6 s6 W6 hB6 g6 hg6 z6
 have fB6 := hB6.f fB5
 obtain ⟨g59', c60', r6_7, q61', q62'⟩ := hB6.is 7
 have k6_6 := kt hg6 6 r6_7
 have k6_7 := kt hg6 7 (hB6.is 8)
 have k6_8 := kt hg6 8 (hB6.is 9)
 have k6_9 := kt hg6 9 (hB6.is 10)
 refine wp_ret ?_
 refine leave_gen (v := .tuple #[.slice (some ⟨g59', 0, none⟩) 3 c60', .int .i64 ((wasK p os xs n)), .int .i64 0, .int .i64 0]) (.inr rfl) (by simp [results, Try.results15, go_sem, frv 27 k6_6, frv 27 k6_7, frv 27 k6_8, frv 27 k6_9]) ?_
 exact ⟨_, rfl, ⟨_, _, rfl, q61', q62'⟩, fB6⟩
end Go.Proofs.Ytcgccflcjejlhaa
