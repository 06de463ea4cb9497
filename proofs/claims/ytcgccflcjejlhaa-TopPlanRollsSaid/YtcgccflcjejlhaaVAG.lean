/- Part of the proof: what the claim leans on. -/
import Derived.Test.YtcgccflcjejlhaaVAF
set_option maxHeartbeats 400000
set_option maxRecDepth 100000
set_option linter.unusedSimpArgs false
set_option linter.unusedVariables false
namespace Go.Proofs.Ytcgccflcjejlhaa
open Go.RowKit
theorem ro_within_yes {lo hi : Int} {xs : List Int} (h : ∀ x ∈ xs, lo ≤ x ∧ x ≤ hi) : within lo hi xs = true := by
  unfold within
  simp only [Bool.not_eq_true', List.any_eq_false]
  intro x hx
  have := h x hx
  simp; omega
structure RoUp (nu de tl : Int) : Prop where
  d : 1 ≤ de ∧ de ≤ 10000
  u : de ≤ nu ∧ nu ≤ 2 * de
  t : 0 ≤ tl ∧ tl ≤ 10000
structure RoIn (tl : Int) (s : Int × Int) : Prop where
  h : tl + 1 ≤ s.1 ∧ s.1 ≤ s.2 ∧ s.2 ≤ 10000
def RdR (W : World) (b o n : Nat) (lg : Nat → Int) : Prop := b < W.heap.size ∧ ∀ i, i < n → W.cell? ⟨b, o + i * 2, none⟩ = some (.int .i64 (lg i)) ∧ W.cell? ⟨b, o + i * 2 + 1, none⟩ = some (.bool true)
theorem RdR.below {W W' : World} {b o n : Nat} {lg : Nat → Int} (h : RdR W b o n lg) (hb : Below W.heap.size W W') : RdR W' b o n lg :=
  ⟨Nat.lt_of_lt_of_le h.1 hb.size, fun i hi => ⟨(hb.cell (p := ⟨b, o + i * 2, none⟩) h.1).trans (h.2 i hi).1, (hb.cell (p := ⟨b, o + i * 2 + 1, none⟩) h.1).trans (h.2 i hi).2⟩⟩
def RdIn (x : Int) : Prop := 1 ≤ x ∧ x ≤ 100000
def upF (x d : Int) : Int := (x + d - 1) / d
def meetF (a b : Int × Int) : Bool := decide (max a.1 b.1 ≤ min a.2 b.2)
theorem ro_within1_any (n lo hi : Int) (a b : Addr) (w : World) (ha : w.cell? a = some (.int .i64 lo)) (hb : w.cell? b = some (.int .i64 hi)) :
    Calls Try.prog 120 #[.int .i64 n, .pointer (some a), .pointer (some b)] w fun e w' => e = .returned (.bool (decide (n < lo) || decide (hi < n))) ∧ Below w.heap.size w w' := by
  by_cases h : n < lo
  · go_enter Try.func120, Try.ntmps120
    go_wp2
    go_ret
    exact ⟨by simp [h], Below.refl _ _⟩
  · go_enter Try.func120, Try.ntmps120
    go_wp2
    go_ret
    exact ⟨by simp; omega, Below.refl _ _⟩
theorem ro_pred_within (lo hi : Int) (a b : Addr) (xs : List Int) (w : World) (ha : w.cell? a = some (.int .i64 lo)) (hb : w.cell? b = some (.int .i64 hi)) (la : a.block < w.heap.size) (lb : b.block < w.heap.size) :
    Pred 120 #[.pointer (some a), .pointer (some b)] (Value.int .i64) (fun n => decide (n < lo) || decide (hi < n)) xs w :=
  fun x _ w1 h1 => ro_within1_any x lo hi a b w1 ((h1.cell la).trans ha) ((h1.cell lb).trans hb)
theorem ro_within_any (lo hi : Int) (a : Option Addr) (n c : Nat) (xs : List Int) (w : World) (h : Ii w a n c xs) :
    Calls Try.prog 73 #[.int .i64 lo, .int .i64 hi, .slice a n c] w fun e w' => e = .returned (.bool (within lo hi xs)) ∧ Below w.heap.size w w' := by
  have H := Lib.hid h
  clear h
  have hb2 : Below w.heap.size w ((w.alloc (.cells #[.int .i64 lo] 3)).alloc (.cells #[.int .i64 hi] 3)) := ((Below.refl _ _).alloc (Nat.le_refl _) _).alloc (by simp) _
  have C := Lib.hid (containsFunc_ints 120 Try.call120 _ (fun n => decide (n < lo) || decide (hi < n)) a n c xs _ (H.out.below hb2 (Nat.le_refl _))
    (ro_pred_within lo hi ⟨w.heap.size, 0, none⟩ ⟨w.heap.size + 1, 0, none⟩ xs _ (by simp) (by simp) (by simp; omega) (by simp)))
  have Hb := Lib.hid hb2
  clear hb2
  go_enter Try.func73, Try.ntmps73
  go_wp2_with ((with_reducible refine (C.out).mono ?_); rintro e w2 ⟨rfl, hb2⟩)
  go_ret
  exact ⟨rfl, Hb.out.trans (hb2.mono (by simp; omega))⟩
theorem ro_isSpan_yes (lo hi a b : Int) (w : World) (h1_ : a ≤ lo ∧ lo ≤ b) (h2_ : a ≤ hi ∧ hi ≤ b) (h3_ : lo ≤ hi) :
  Calls Try.prog 71 #[.agg #[.int .i64 lo, .int .i64 hi], .int .i64 a, .int .i64 b] w (fun e w' => e = .returned (.bool true) ∧ Below w.heap.size w w') := by
 have hlh_ : decide (lo ≤ hi) = true := decide_eq_true h3_
 refine calls_fr Try.func71 Try.ntmps71 rfl rfl fun g hg => ?_
 have k0 : g 0 = .agg #[.int .i64 lo, .int .i64 hi] := hg 0
 have k1 : g 1 = .int .i64 a := hg 1
 have k2 : g 2 = .int .i64 b := hg 2
 clear hg
 have fB0 : Below w.heap.size w w := Below.refl _ _
 refine rw_ 2 [(3, 0), (6, 1)] [[], []] (rel [bx 0 #[.int .i64 lo, .int .i64 hi] 43, iB false])
  ⟨fun f s W j k l m n i => opb rfl rfl (by simp [go_sem, i.e 0 k0]),
  fun f s W j k l m n i => opz, trivial⟩ ?_
 intro f1 s1 W1 hB1 g1 hg1 z1
 obtain ⟨r1_0, br1_0⟩ := hB1.is 0
 have lr1_0 := hB1.lr 0 br1_0
 have k1_1 := kt hg1 1 k1
 have k1_2 := kt hg1 2 k2
 have k1_3 := kt hg1 3 r1_0
 refine rw_ 16 [(7, 0), (8, 1), (9, 2), (10, 3), (11, 4), (12, 5), (13, 6), (14, 7), (15, 8), (16, 9), (17, 10), (18, 11), (19, 12), (20, 13), (21, 14), (6, 15)] [[], [], [], [2], [], [4], [3, 5], [0, 1, 6], [7], [8], [8, 9], [8], [8, 11], [8, 10, 12], [8, 13], [14]] (rel [iI a, iI b, is (.pointer (some ⟨(s1 0), 0, none⟩)), iI lo, is (.pointer (some ⟨(s1 0), 1, none⟩)), iI hi, row 6 2 #[.int .i64 lo, .int .i64 hi] 3, iB true, iB true, is (.pointer (some ⟨(s1 0), 0, none⟩)), iI lo, is (.pointer (some ⟨(s1 0), 1, none⟩)), iI hi, iB true, iB true, iB true])
  ⟨fun f s W j k l m n i => opm (i.v 1 k1_1),
  fun f s W j k l m n i => opm (i.v 2 k1_2),
  fun f s W j k l m n i => opv rfl rfl (by simp [go_sem, i.e 3 k1_3]) rfl,
  fun f s W j k l m n i => opv rfl rfl (by simp [go_sem, i.e 9 (k 2 rfl), cb br1_0 j 0]) rfl,
  fun f s W j k l m n i => opv rfl rfl (by simp [go_sem, i.e 3 k1_3]) rfl,
  fun f s W j k l m n i => opv rfl rfl (by simp [go_sem, i.e 11 (k 4 rfl), cb br1_0 j 1]) rfl,
  fun f s W j k l m n i => opr rfl rfl (by simp [go_sem, i.e 10 (k 3 rfl), i.e 12 (k 5 rfl)]),
  fun f s W j k l m n i => opd (args := #[.int .i64 a, .int .i64 b, .slice (some ⟨(s 6), 0, none⟩) (2) (2)]) rfl rfl (by simp [go_sem, i.e 7 (k 0 rfl), i.e 8 (k 1 rfl), i.e 13 (k 6 rfl).1]) (ro_within_any (a) (b) _ 2 2 [lo, hi] W (ii_block (xs := [lo, hi]) (k 6 rfl).2 rfl rfl)) ((fun e W' h => by have h1 := h.1; rw [ro_within_yes (by simp; omega)] at h1; exact ⟨_, h1, h.2, rfl⟩)),
  fun f s W j k l m n i => opm (i.v 14 (k 7 rfl)),
  fun f s W j k l m n i => osure rfl rfl (i.says (d := 15) rfl rfl (k 8 rfl)) (gv (by simp [go_sem, i.e 3 k1_3]) rfl),
  fun f s W j k l m n i => osure rfl rfl (i.says (d := 15) rfl rfl (k 8 rfl)) (gv (by simp [go_sem, i.e 16 (k 9 rfl), cb br1_0 j 0]) rfl),
  fun f s W j k l m n i => osure rfl rfl (i.says (d := 15) rfl rfl (k 8 rfl)) (gv (by simp [go_sem, i.e 3 k1_3]) rfl),
  fun f s W j k l m n i => osure rfl rfl (i.says (d := 15) rfl rfl (k 8 rfl)) (gv (by simp [go_sem, i.e 18 (k 11 rfl), cb br1_0 j 1]) rfl),
  fun f s W j k l m n i => osure rfl rfl (i.says (d := 15) rfl rfl (k 8 rfl)) (gv (by simp [go_sem, i.e 17 (k 10 rfl), i.e 19 (k 12 rfl), hlh_]) rfl),
  fun f s W j k l m n i => opk (c := true) rfl rfl (fun h => absurd h (by decide)) (fun _ => by simp [go_sem, i.e 15 (k 8 rfl), i.e 20 (k 13 rfl)]),
  fun f s W j k l m n i => opm (i.v 21 (k 14 rfl)), trivial⟩ ?_
 intro f2 s2 W2 hB2 g2 hg2 z2
 have fB2 := hB2.f (hB1.f fB0)
 obtain ⟨r2_6, br2_6⟩ := hB2.is 6
 have lr2_6 := hB2.lr 6 br2_6
 have k2_6 := kt hg2 6 (hB2.is 15)
 refine wp_ret ?_
 refine leave_one (N := 22) (.inr rfl) Try.results71 rfl k2_6 ?_
 exact ⟨rfl, fB2⟩
theorem ro_check1 (lo hi tl : Int) (bs : Nat) (w : World) (hlt : bs < w.heap.size) (hl : w.cell? ⟨bs, 2, none⟩ = some (.int .i64 tl)) (ht : 0 ≤ tl ∧ tl ≤ 10000) (h : RoIn tl (lo, hi)) :
  Calls Try.prog 117 #[.agg #[.int .i64 lo, .int .i64 hi], .pointer (some ⟨bs, 0, none⟩)] w (fun e w' => e = .returned (.bool false) ∧ Below w.heap.size w w') := by
 have h_ : tl + 1 ≤ lo ∧ lo ≤ hi ∧ hi ≤ 10000 := h.h
 refine calls_fr Try.func117 Try.ntmps117 rfl rfl fun g hg => ?_
 have k0 : g 0 = .agg #[.int .i64 lo, .int .i64 hi] := hg 0
 have k1 : g 1 = .pointer (some ⟨bs, 0, none⟩) := hg 1
 clear hg
 have fB0 : Below w.heap.size w w := Below.refl _ _
 refine rw_ 2 [(2, 0), (3, 1)] [[], []] (rel [bx 0 #[.int .i64 lo, .int .i64 hi] 43, iB false])
  ⟨fun f s W c d i j k a => opb rfl rfl (by simp [go_sem, a.e 0 k0]),
  fun f s W c d i j k a => opz, trivial⟩ ?_
 intro f1 s1 W1 hB1 g1 hg1 z1
 have fB1 := hB1.f fB0
 obtain ⟨r1_0, br1_0⟩ := hB1.is 0
 have lr1_0 := hB1.lr 0 br1_0
 have k1_1 := kt hg1 1 k1
 have k1_2 := kt hg1 2 r1_0
 refine rw_ 7 [(4, 0), (5, 1), (6, 2), (7, 3), (8, 4), (9, 5), (3, 6)] [[], [], [1], [2], [0, 3], [4], [5]] (rel [is (.agg #[.int .i64 lo, .int .i64 hi]), is (.pointer (some ⟨bs, 2, none⟩)), iI tl, iI (tl + 1), iB true, iB false, iB false])
  ⟨fun f s W c d i j k a => opv rfl rfl (by simp [go_sem, a.e 2 k1_2, cb br1_0 c 0, cb br1_0 c 1]) rfl,
  fun f s W c d i j k a => opv rfl rfl (by simp [go_sem, a.e 1 k1_1]) rfl,
  fun f s W c d i j k a => by have l := bwt fB1 c; have cu_ := (l.cell (p := ⟨bs, 2, none⟩) hlt).trans hl; exact opv rfl rfl (by simp [go_sem, a.e 5 (d 1 rfl), cu_]) rfl,
  fun f s W c d i j k a => opv rfl rfl (by simp [go_sem, a.e 6 (d 2 rfl), IntWalk.i64_in (tl + 1) (by omega)]) rfl,
  fun f s W c d i j k a => opc rfl rfl (by simp [go_sem, a.e 4 (d 0 rfl), a.e 7 (d 3 rfl)]) (ro_isSpan_yes lo hi (tl + 1) (10000000) W (by omega) (by omega) (by omega)),
  fun f s W c d i j k a => opv rfl rfl (by simp [go_sem, a.e 8 (d 4 rfl)]) rfl,
  fun f s W c d i j k a => opm (a.v 9 (d 5 rfl)), trivial⟩ ?_
 intro f2 s2 W2 hB2 g2 hg2 z2
 have fB2 := hB2.f fB1
 have k2_3 := kt hg2 3 (hB2.is 6)
 refine wp_ret ?_
 refine leave_one (N := 10) (.inr rfl) Try.results117 rfl k2_3 ?_
 exact ⟨rfl, fB2⟩
def SpL (W : World) (a : Option Addr) (n : Nat) (ss : Nat → Int × Int) : Prop := n = 0 ∨ ∃ b o, a = some ⟨b, o, none⟩ ∧ SpR W b o n ss
theorem SpL.below {W W' : World} {a : Option Addr} {n : Nat} {ss : Nat → Int × Int} (h : SpL W a n ss) (hb : Below W.heap.size W W') : SpL W' a n ss :=
  h.imp id fun ⟨b, o, e, h⟩ => ⟨b, o, e, h.below hb⟩
theorem SpL.at {W : World} {a : Option Addr} {n : Nat} {ss : Nat → Int × Int} (h : SpL W a n ss) {k : Nat} (hk : k < n) : ∃ b o, a = some ⟨b, o, none⟩ ∧ SpR W b o n ss := h.resolve_left (by omega)
def RdL (W : World) (a : Option Addr) (n : Nat) (lg : Nat → Int) : Prop := n = 0 ∨ ∃ b o, a = some ⟨b, o, none⟩ ∧ RdR W b o n lg
theorem RdL.below {W W' : World} {a : Option Addr} {n : Nat} {lg : Nat → Int} (h : RdL W a n lg) (hb : Below W.heap.size W W') : RdL W' a n lg :=
  h.imp id fun ⟨b, o, e, h⟩ => ⟨b, o, e, h.below hb⟩
theorem RdL.at {W : World} {a : Option Addr} {n : Nat} {lg : Nat → Int} (h : RdL W a n lg) {k : Nat} (hk : k < n) : ∃ b o, a = some ⟨b, o, none⟩ ∧ RdR W b o n lg := h.resolve_left (by omega)
theorem ro_cs_index (tl : Int) (ss : Nat → Int × Int) (ra : Option Addr) (bs n c : Nat) (w : World) (hO : SpL w ra n ss) (ho : ∀ i, i < n → RoIn tl (ss i)) (gn : n ≤ 100) (hlt : bs < w.heap.size) (hl : w.cell? ⟨bs, 2, none⟩ = some (.int .i64 tl)) (ht : 0 ≤ tl ∧ tl ≤ 10000) :
  Calls Try.prog 138 #[.slice ra n c, .func (.func 117) #[] #[.pointer (some ⟨bs, 0, none⟩)]] w (fun e w' => e = .returned (.int .i64 (-1)) ∧ Below w.heap.size w w') := by
 refine calls_fr Try.func138 Try.ntmps138 rfl rfl fun g hg => ?_
 have k0 : g 0 = .slice ra n c := hg 0
 have k1 : g 1 = .func (.func 117) #[] #[.pointer (some ⟨bs, 0, none⟩)] := hg 1
 clear hg
 have fB0 : Below w.heap.size w w := Below.refl _ _
 refine rw_ 1 [(4, 0)] [[]] (rel [iI 0])
  ⟨fun f s W b d h j l a => opz, trivial⟩ ?_
 intro f1 s1 W1 hB1 g1 hg1 z1
 have k1_0 := kt hg1 0 k0
 refine wp_seq_k fun K2 hK2 => ?_
 refine rw_ 3 [(6, 0), (7, 1), (8, 2)] [[], [0], []] (rel [is (.slice ra n c), iI ((n : Int)), iI 0])
  ⟨fun f s W b d h j l a => opm (a.v 0 k1_0),
  fun f s W b d h j l a => opv rfl rfl (by simp [go_sem, a.e 6 (d 0 rfl)]) rfl,
  fun f s W b d h j l a => opz, trivial⟩ ?_
 intro f2 s2 W2 hB2 g2 hg2 z2
 have fB2 := hB2.f (hB1.f fB0)
 have k2_0 := kt hg2 0 k1_0
 have k2_1 := kt hg2 1 (kt hg1 1 k1)
 have k2_4 := kt hg2 4 (kt hg1 4 (hB1.is 0))
 have k2_7 := kt hg2 7 (hB2.is 1)
 have k2_8 := kt hg2 8 (hB2.is 2)
 refine wp_block ?_
 refine wp_loop_n (fun m_ a_ W_ => ∃ g_ : Nat → Value, a_ = fr 19 g_ ∧ (∃ k : Nat, m_ = n - k ∧ g_ 0 = .slice ra n c ∧ g_ 1 = .func (.func 117) #[] #[.pointer (some ⟨bs, 0, none⟩)] ∧ g_ 4 = .int .i64 0 ∧ g_ 7 = .int .i64 ((n : Int)) ∧ g_ 8 = .int .i64 ((k : Int)) ∧ Below w.heap.size w W_ ∧ W2.heap.size ≤ W_.heap.size ∧ (k ≤ n))) ⟨_, g2, rfl, 0, rfl, k2_0, k2_1, k2_4, k2_7, k2_8.trans (by rfl), fB2, Nat.le_refl _, (by omega)⟩ ?_
 rintro _ _ W_1 ⟨g_1, rfl, k, rfl, k_1_0, k_1_1, k_1_4, k_1_7, k_1_8, fB_1, z_1, lk0⟩
 refine rw_ 1 [(9, 0)] [[]] (rel [iB (decide ((k : Int) < (n : Int)))])
  ⟨fun f s W b d h j l a => opv rfl rfl (by simp [go_sem, a.e 8 k_1_8, a.e 7 k_1_7]) rfl, trivial⟩ ?_
 intro f3 s3 W3 hB3 g3 hg3 z3
 have fB3 := hB3.f fB_1
 have k3_8 := kt hg3 8 k_1_8
 have k3_9 := kt hg3 9 (hB3.is 0)
 refine wp_seq_k fun K5 hK5 => ?_
 refine wp_cond_split (t := decide ((k : Int) < (n : Int))) ((fr_eval rfl).trans k3_9) (fun hc6 => ?_) (fun hc6 => ?_)
 ·
  have hc6' := hc6; try simp only [ba] at hc6'
  have hkn : k < n := by omega
  obtain ⟨bo, oo, hra, hO'⟩ := hO.at hkn
  subst hra
  ·
   refine wp_skip ?_
   refine hK5 _ _ ?_
   refine wp_seq_k fun K7 hK7 => ?_
   refine wp_block ?_
   refine rw_ 2 [(10, 0), (5, 1)] [[], [0]] (rel [iI ((k : Int)), iI ((k : Int))])
    ⟨fun f s W b d h j l a => opm (a.v 8 k3_8),
  fun f s W b d h j l a => opm (a.v 10 (d 0 rfl)), trivial⟩ ?_
   intro f4 s4 W4 hB4 g4 hg4 z4
   have fB4 := hB4.f fB3
   have k4_0 := kt hg4 0 (kt hg3 0 k_1_0)
   have k4_1 := kt hg4 1 (kt hg3 1 k_1_1)
   have k4_4 := kt hg4 4 (kt hg3 4 k_1_4)
   have k4_7 := kt hg4 7 (kt hg3 7 k_1_7)
   have k4_8 := kt hg4 8 k3_8
   have k4_5 := kt hg4 5 (hB4.is 1)
   refine rw_ 6 [(11, 0), (12, 1), (13, 2), (14, 3), (15, 4), (16, 5)] [[], [], [], [1, 2], [3], [0, 4]] (rel [is (.func (.func 117) #[] #[.pointer (some ⟨bs, 0, none⟩)]), is (.slice ((some ⟨bo, oo, none⟩)) (n) (c)), iI ((k : Int)), is (.pointer (some ⟨bo, oo + k * 2, none⟩)), is (.agg #[.int .i64 ((ss k).1), .int .i64 ((ss k).2)]), iB false])
    ⟨fun f s W b d h j l a => opm (a.v 1 k4_1),
  fun f s W b d h j l a => opm (a.v 0 k4_0),
  fun f s W b d h j l a => opm (a.v 5 k4_5),
  fun f s W b d h j l a => by have li_ := Nat.not_le.2 (show k < n by omega); have li2_ : (k : Int) < (n : Int) := (by omega); exact opv rfl rfl (by simp [go_sem, a.e 12 (d 1 rfl), a.e 13 (d 2 rfl), li_, li2_]) rfl,
  fun f s W b d h j l a => by have m := bwt fB4 b; have cu_ := (hO'.below m).2 k (by omega); have cu0_ : W.cell? ⟨bo, oo + k * 2, none⟩ = some (.int .i64 (ss k).1) := cu_.1; have cu1_ : W.cell? ⟨bo, oo + k * 2 + 1, none⟩ = some (.int .i64 (ss k).2) := cu_.2; exact opv rfl rfl (by simp [go_sem, a.e 14 (d 3 rfl), cu0_, cu1_]) rfl,
  fun f s W b d h j l a => by have m := bwt fB4 b; exact opc rfl rfl (by simp [go_sem, a.e 15 (d 4 rfl), a.e 11 (d 0 rfl)]) (ro_check1 (ss k).1 (ss k).2 tl bs W (Nat.lt_of_lt_of_le hlt m.size) ((m.cell (p := ⟨bs, 2, none⟩) hlt).trans hl) ht (ho k (by omega))), trivial⟩ ?_
   intro f5 s5 W5 hB5 g5 hg5 z5
   have fB5 := hB5.f fB4
   have k5_0 := kt hg5 0 k4_0
   have k5_1 := kt hg5 1 k4_1
   have k5_4 := kt hg5 4 k4_4
   have k5_7 := kt hg5 7 k4_7
   have k5_8 := kt hg5 8 k4_8
   have k5_16 := kt hg5 16 (hB5.is 5)
   refine wp_cond_false ((fr_eval rfl).trans k5_16) ?_
   refine wp_skip ?_
   refine ibn ?_
   refine hK7 _ _ ?_
   refine ry 2 [(18, 0), (8, 1)] [[], [0]] (rel [iI ((k : Int) + 1), iI ((k : Int) + 1)])
    ⟨fun f s W b d h j l a => opv rfl rfl (by simp [go_sem, a.e 8 ((j 1 8 rfl rfl).trans k5_8), IntWalk.i64_in ((k : Int) + 1) (by omega)]) rfl,
  fun f s W b d h j l a => opm (a.v 18 (d 0 rfl)), trivial⟩ ?_
   intro f6 s6 W6 hB6 g6 hg6 z6
   have fB6 := hB6.f fB5
   refine wpe ?_
   have k6_0 := kt hg6 0 k5_0
   have k6_1 := kt hg6 1 k5_1
   have k6_4 := kt hg6 4 k5_4
   have k6_7 := kt hg6 7 k5_7
   have k6_8 := kt hg6 8 (hB6.is 1)
   refine then_normal ?_
   exact ⟨_, by omega, g6, rfl, k + 1, rfl, k6_0, k6_1, k6_4, k6_7, k6_8.trans (by go_num), fB6, (by omega), (by omega)⟩
 ·
  have hc6' := hc6; try simp only [ba] at hc6'
  refine wp_exit ?_
  refine then_exit ?_
  refine then_exit ?_
  refine inBlock_at ?_
  refine hK2 _ _ ?_
  refine rw_ 1 [(4, 0)] [[]] (rel [iI (-1)])
   ⟨fun f s W b d h j l a => opz, trivial⟩ ?_
  intro f7 s7 W7 hB7 g7 hg7 z7
  have fB7 := hB7.f fB3
  have k7_4 := kt hg7 4 (hB7.is 0)
  refine wp_ret ?_
  refine leave_one (N := 19) (.inr rfl) Try.results138 rfl k7_4 ?_
  exact ⟨rfl, fB7⟩
theorem ro_cs_contains (tl : Int) (ss : Nat → Int × Int) (ra : Option Addr) (bs n c : Nat) (w : World) (hO : SpL w ra n ss) (ho : ∀ i, i < n → RoIn tl (ss i)) (gn : n ≤ 100) (hlt : bs < w.heap.size) (hl : w.cell? ⟨bs, 2, none⟩ = some (.int .i64 tl)) (ht : 0 ≤ tl ∧ tl ≤ 10000) :
  Calls Try.prog 101 #[.slice ra n c, .func (.func 117) #[] #[.pointer (some ⟨bs, 0, none⟩)]] w (fun e w' => e = .returned (.bool false) ∧ Below w.heap.size w w') := by
 refine calls_fr Try.func101 Try.ntmps101 rfl rfl fun g hg => ?_
 have k0 : g 0 = .slice ra n c := hg 0
 have k1 : g 1 = .func (.func 117) #[] #[.pointer (some ⟨bs, 0, none⟩)] := hg 1
 clear hg
 have fB0 : Below w.heap.size w w := Below.refl _ _
 refine rw_ 1 [(4, 0)] [[]] (rel [iB false])
  ⟨fun f s W b d h j k a => opz, trivial⟩ ?_
 intro f1 s1 W1 hB1 g1 hg1 z1
 have fB1 := hB1.f fB0
 have k1_0 := kt hg1 0 k0
 have k1_1 := kt hg1 1 k1
 refine rw_ 5 [(5, 0), (6, 1), (7, 2), (8, 3), (4, 4)] [[], [], [0, 1], [2], [3]] (rel [is (.slice ra n c), is (.func (.func 117) #[] #[.pointer (some ⟨bs, 0, none⟩)]), iI (-1), iB false, iB false])
  ⟨fun f s W b d h j k a => opm (a.v 0 k1_0),
  fun f s W b d h j k a => opm (a.v 1 k1_1),
  fun f s W b d h j k a => by have l := bwt fB1 b; exact opc rfl rfl (by simp [go_sem, a.e 5 (d 0 rfl), a.e 6 (d 1 rfl)]) (ro_cs_index tl ss ra bs n c W (hO.below l) ho gn (Nat.lt_of_lt_of_le hlt l.size) ((l.cell (p := ⟨bs, 2, none⟩) hlt).trans hl) ht),
  fun f s W b d h j k a => opv rfl rfl (by simp [go_sem, a.e 7 (d 2 rfl)]) rfl,
  fun f s W b d h j k a => opm (a.v 8 (d 3 rfl)), trivial⟩ ?_
 intro f2 s2 W2 hB2 g2 hg2 z2
 have fB2 := hB2.f fB1
 have k2_4 := kt hg2 4 (hB2.is 4)
 refine wp_ret ?_
 refine leave_one (N := 9) (.inr rfl) Try.results101 rfl k2_4 ?_
 exact ⟨rfl, fB2⟩
theorem ro_stand_yes (nu de tl : Int) (ss : Nat → Int × Int) (ra : Option Addr) (n c : Nat) (w : World) (hU : RoUp nu de tl) (hO : SpL w ra n ss) (ho : ∀ i, i < n → RoIn tl (ss i)) (gn : n ≤ 6) :
  Calls Try.prog 67 #[.agg #[.int .i64 nu, .int .i64 de, .int .i64 tl, .slice ra n c]] w (fun e w' => e = .returned (.int .i64 0) ∧ Below w.heap.size w w') := by
 have hd_ := hU.d
 have hu_ := hU.u
 have ht_ := hU.t
 have hn6_ : decide (6 < (n : Int)) = false := decide_eq_false (by omega)
 refine calls_fr Try.func67 Try.ntmps67 rfl rfl fun g hg => ?_
 have k0 : g 0 = .agg #[.int .i64 nu, .int .i64 de, .int .i64 tl, .slice ra n c] := hg 0
 clear hg
 have fB0 : Below w.heap.size w w := Below.refl _ _
 refine rw_ 2 [(1, 0), (2, 1)] [[], []] (rel [bx 0 #[.int .i64 nu, .int .i64 de, .int .i64 tl, .slice ra n c] 80, iI 0])
  ⟨fun f s W j k l m o a => opb rfl rfl (by simp [go_sem, a.e 0 k0]),
  fun f s W j k l m o a => opz, trivial⟩ ?_
 intro f1 s1 W1 hB1 g1 hg1 z1
 obtain ⟨r1_0, br1_0⟩ := hB1.is 0
 have lr1_0 := hB1.lr 0 br1_0
 have k1_1 := kt hg1 1 r1_0
 refine wp_seq_k fun K2 hK2 => ?_
 refine wp_block ?_
 refine wp_seq_k fun K3 hK3 => ?_
 refine rw_ 7 [(4, 0), (5, 1), (6, 2), (7, 3), (8, 4), (9, 5), (3, 6)] [[], [0], [1], [2], [3], [4], [5]] (rel [is (.pointer (some ⟨(s1 0), 0, none⟩)), is (.pointer (some ⟨(s1 0), 1, none⟩)), iI de, row 3 1 #[.int .i64 de] 3, iB true, iB false, iB false])
  ⟨fun f s W j k l m o a => opv rfl rfl (by simp [go_sem, a.e 1 k1_1]) rfl,
  fun f s W j k l m o a => opv rfl rfl (by simp [go_sem, a.e 4 (k 0 rfl)]) rfl,
  fun f s W j k l m o a => opv rfl rfl (by simp [go_sem, a.e 5 (k 1 rfl), cb br1_0 j 1]) rfl,
  fun f s W j k l m o a => opr rfl rfl (by simp [go_sem, a.e 6 (k 2 rfl)]),
  fun f s W j k l m o a => opd (args := #[.int .i64 1, .int .i64 10000, .slice (some ⟨(s 3), 0, none⟩) (1) (1)]) rfl rfl (by simp [go_sem, a.e 7 (k 3 rfl).1]) (ro_within_any (1) (10000) _ 1 1 [de] W (ii_block (xs := [de]) (k 3 rfl).2 rfl rfl)) ((fun e W' h => by have h1 := h.1; rw [ro_within_yes (by simp; omega)] at h1; exact ⟨_, h1, h.2, rfl⟩)),
  fun f s W j k l m o a => opv rfl rfl (by simp [go_sem, a.e 8 (k 4 rfl)]) rfl,
  fun f s W j k l m o a => opm (a.v 9 (k 5 rfl)), trivial⟩ ?_
 intro f2 s2 W2 hB2 g2 hg2 z2
 have b2_0 := hB2.b br1_0
 obtain ⟨r2_3, br2_3⟩ := hB2.is 3
 have lr2_3 := hB2.lr 3 br2_3
 have k2_1 := kt hg2 1 k1_1
 have k2_3 := kt hg2 3 (hB2.is 6)
 refine wp_cond_false ((fr_eval rfl).trans k2_3) ?_
 refine rw_ 14 [(10, 0), (11, 1), (12, 2), (13, 3), (14, 4), (15, 5), (16, 6), (17, 7), (18, 8), (19, 9), (20, 10), (21, 11), (22, 12), (3, 13)] [[], [0], [1], [], [3], [4], [5], [], [7], [8], [9], [2, 6, 10], [11], [12]] (rel [is (.pointer (some ⟨(s1 0), 0, none⟩)), is (.pointer (some ⟨(s1 0), 1, none⟩)), iI de, is (.pointer (some ⟨(s1 0), 0, none⟩)), is (.pointer (some ⟨(s1 0), 1, none⟩)), iI de, iI (2 * de), is (.pointer (some ⟨(s1 0), 0, none⟩)), is (.pointer (some ⟨(s1 0), 0, none⟩)), iI nu, row 10 1 #[.int .i64 nu] 3, iB true, iB false, iB false])
  ⟨fun f s W j k l m o a => opv rfl rfl (by simp [go_sem, a.e 1 k2_1]) rfl,
  fun f s W j k l m o a => opv rfl rfl (by simp [go_sem, a.e 10 (k 0 rfl)]) rfl,
  fun f s W j k l m o a => opv rfl rfl (by simp [go_sem, a.e 11 (k 1 rfl), cb b2_0 j 1]) rfl,
  fun f s W j k l m o a => opv rfl rfl (by simp [go_sem, a.e 1 k2_1]) rfl,
  fun f s W j k l m o a => opv rfl rfl (by simp [go_sem, a.e 13 (k 3 rfl)]) rfl,
  fun f s W j k l m o a => opv rfl rfl (by simp [go_sem, a.e 14 (k 4 rfl), cb b2_0 j 1]) rfl,
  fun f s W j k l m o a => opv rfl rfl (by simp [go_sem, a.e 15 (k 5 rfl), IntWalk.i64_in (2 * de) (by omega)]) rfl,
  fun f s W j k l m o a => opv rfl rfl (by simp [go_sem, a.e 1 k2_1]) rfl,
  fun f s W j k l m o a => opv rfl rfl (by simp [go_sem, a.e 17 (k 7 rfl)]) rfl,
  fun f s W j k l m o a => opv rfl rfl (by simp [go_sem, a.e 18 (k 8 rfl), cb b2_0 j 0]) rfl,
  fun f s W j k l m o a => opr rfl rfl (by simp [go_sem, a.e 19 (k 9 rfl)]),
  fun f s W j k l m o a => opd (args := #[.int .i64 de, .int .i64 (2 * de), .slice (some ⟨(s 10), 0, none⟩) (1) (1)]) rfl rfl (by simp [go_sem, a.e 12 (k 2 rfl), a.e 16 (k 6 rfl), a.e 20 (k 10 rfl).1]) (ro_within_any (de) (2 * de) _ 1 1 [nu] W (ii_block (xs := [nu]) (k 10 rfl).2 rfl rfl)) ((fun e W' h => by have h1 := h.1; rw [ro_within_yes (by simp; omega)] at h1; exact ⟨_, h1, h.2, rfl⟩)),
  fun f s W j k l m o a => opv rfl rfl (by simp [go_sem, a.e 21 (k 11 rfl)]) rfl,
  fun f s W j k l m o a => opm (a.v 22 (k 12 rfl)), trivial⟩ ?_
 intro f3 s3 W3 hB3 g3 hg3 z3
 have b3_0 := hB3.b b2_0
 obtain ⟨r3_10, br3_10⟩ := hB3.is 10
 have lr3_10 := hB3.lr 10 br3_10
 have k3_1 := kt hg3 1 k2_1
 have k3_3 := kt hg3 3 (hB3.is 13)
 refine wp_cond_false ((fr_eval rfl).trans k3_3) ?_
 refine ry 6 [(23, 0), (24, 1), (25, 2), (26, 3), (27, 4), (3, 5)] [[], [0], [1], [2], [3], [4]] (rel [is (.pointer (some ⟨(s1 0), 2, none⟩)), iI tl, row 2 1 #[.int .i64 tl] 3, iB true, iB false, iB false])
  ⟨fun f s W j k l m o a => opv rfl rfl (by simp [go_sem, a.e 1 k3_1]) rfl,
  fun f s W j k l m o a => opv rfl rfl (by simp [go_sem, a.e 23 (k 0 rfl), cb b3_0 j 2]) rfl,
  fun f s W j k l m o a => opr rfl rfl (by simp [go_sem, a.e 24 (k 1 rfl)]),
  fun f s W j k l m o a => opd (args := #[.int .i64 0, .int .i64 10000, .slice (some ⟨(s 2), 0, none⟩) (1) (1)]) rfl rfl (by simp [go_sem, a.e 25 (k 2 rfl).1]) (ro_within_any (0) (10000) _ 1 1 [tl] W (ii_block (xs := [tl]) (k 2 rfl).2 rfl rfl)) ((fun e W' h => by have h1 := h.1; rw [ro_within_yes (by simp; omega)] at h1; exact ⟨_, h1, h.2, rfl⟩)),
  fun f s W j k l m o a => opv rfl rfl (by simp [go_sem, a.e 26 (k 3 rfl)]) rfl,
  fun f s W j k l m o a => opm (a.v 27 (k 4 rfl)), trivial⟩ ?_
 intro f4 s4 W4 hB4 g4 hg4 z4
 have b4_0 := hB4.b b3_0
 obtain ⟨r4_2, br4_2⟩ := hB4.is 2
 have lr4_2 := hB4.lr 2 br4_2
 refine hK3 _ _ ?_
 have k4_1 := kt hg4 1 k3_1
 have k4_3 := kt hg4 3 (hB4.is 5)
 refine wp_cond_false ((fr_eval rfl).trans k4_3) ?_
 refine rw_ 5 [(29, 0), (30, 1), (31, 2), (32, 3), (28, 4)] [[], [0], [1], [2], [3]] (rel [is (.pointer (some ⟨(s1 0), 3, none⟩)), is (.slice ra n c), iI ((n : Int)), iB false, iB false])
  ⟨fun f s W j k l m o a => opv rfl rfl (by simp [go_sem, a.e 1 k4_1]) rfl,
  fun f s W j k l m o a => opv rfl rfl (by simp [go_sem, a.e 29 (k 0 rfl), cb b4_0 j 3]) rfl,
  fun f s W j k l m o a => opv rfl rfl (by simp [go_sem, a.e 30 (k 1 rfl)]) rfl,
  fun f s W j k l m o a => opv rfl rfl (by simp [go_sem, a.e 31 (k 2 rfl), hn6_]) rfl,
  fun f s W j k l m o a => opm (a.v 32 (k 3 rfl)), trivial⟩ ?_
 intro f5 s5 W5 hB5 g5 hg5 z5
 have fB5 := hB5.f (hB4.f (hB3.f (hB2.f (hB1.f fB0))))
 have b5_0 := hB5.b b4_0
 have k5_1 := kt hg5 1 k4_1
 have k5_28 := kt hg5 28 (hB5.is 4)
 refine wp_cond_false ((fr_eval rfl).trans k5_28) ?_
 refine rw_ 5 [(34, 0), (35, 1), (36, 2), (37, 3), (33, 4)] [[], [0], [], [1, 2], [3]] (rel [is (.pointer (some ⟨(s1 0), 3, none⟩)), is (.slice ra n c), is (.func (.func 117) #[] #[.pointer (some ⟨(s1 0), 0, none⟩)]), iB false, iB false])
  ⟨fun f s W j k l m o a => opv rfl rfl (by simp [go_sem, a.e 1 k5_1]) rfl,
  fun f s W j k l m o a => opv rfl rfl (by simp [go_sem, a.e 34 (k 0 rfl), cb b5_0 j 3]) rfl,
  fun f s W j k l m o a => opv rfl rfl (by simp [go_sem, a.e 1 k5_1]) rfl,
  fun f s W j k l m o a => by have p := bwt fB5 j; exact opc (args := #[.slice ra n c, .func (.func 117) #[] #[.pointer (some ⟨(s1 0), 0, none⟩)]]) rfl rfl (by simp [go_sem, a.e 35 (k 1 rfl), a.e 36 (k 2 rfl)]) (ro_cs_contains tl ss ra (s1 0) n c W (hO.below p) ho (by omega) (ltb (bwb b5_0 j)) (cb b5_0 j 2) ht_),
  fun f s W j k l m o a => opm (a.v 37 (k 3 rfl)), trivial⟩ ?_
 intro f6 s6 W6 hB6 g6 hg6 z6
 have k6_33 := kt hg6 33 (hB6.is 4)
 refine wp_cond_false ((fr_eval rfl).trans k6_33) ?_
 refine wp_skip ?_
 refine ibn ?_
 refine hK2 _ _ ?_
 refine rw_ 1 [(2, 0)] [[]] (rel [iI 0])
  ⟨fun f s W j k l m o a => opz, trivial⟩ ?_
 intro f7 s7 W7 hB7 g7 hg7 z7
 have fB7 := hB7.f (hB6.f fB5)
 have k7_2 := kt hg7 2 (hB7.is 0)
 refine wp_ret ?_
 refine leave_one (N := 38) (.inr rfl) Try.results67 rfl k7_2 ?_
 exact ⟨rfl, fB7⟩
theorem ro_chk1 (x : Int) (w : World) (hx : RdIn x) :
  Calls Try.prog 81 #[.agg #[.int .i64 x, .bool true]] w (fun e w' => e = .returned (.bool false) ∧ Below w.heap.size w w') := by
 have hx_ : 1 ≤ x ∧ x ≤ 100000 := hx
 refine calls_fr Try.func81 Try.ntmps81 rfl rfl fun g hg => ?_
 have k0 : g 0 = .agg #[.int .i64 x, .bool true] := hg 0
 clear hg
 have fB0 : Below w.heap.size w w := Below.refl _ _
 refine rw_ 2 [(1, 0), (2, 1)] [[], []] (rel [bx 0 #[.int .i64 x, .bool true] 76, iB false])
  ⟨fun f s W c d i j k a => opb rfl rfl (by simp [go_sem, a.e 0 k0]),
  fun f s W c d i j k a => opz, trivial⟩ ?_
 intro f1 s1 W1 hB1 g1 hg1 z1
 obtain ⟨r1_0, br1_0⟩ := hB1.is 0
 have lr1_0 := hB1.lr 0 br1_0
 have k1_1 := kt hg1 1 r1_0
 refine rw_ 6 [(3, 0), (4, 1), (5, 2), (6, 3), (7, 4), (2, 5)] [[], [0], [1], [2], [3], [4]] (rel [is (.pointer (some ⟨(s1 0), 0, none⟩)), iI x, row 2 1 #[.int .i64 x] 3, iB true, iB false, iB false])
  ⟨fun f s W c d i j k a => opv rfl rfl (by simp [go_sem, a.e 1 k1_1]) rfl,
  fun f s W c d i j k a => opv rfl rfl (by simp [go_sem, a.e 3 (d 0 rfl), cb br1_0 c 0]) rfl,
  fun f s W c d i j k a => opr rfl rfl (by simp [go_sem, a.e 4 (d 1 rfl)]),
  fun f s W c d i j k a => opd (args := #[.int .i64 1, .int .i64 5000000, .slice (some ⟨(s 2), 0, none⟩) (1) (1)]) rfl rfl (by simp [go_sem, a.e 5 (d 2 rfl).1]) (ro_within_any (1) (5000000) _ 1 1 [x] W (ii_block (xs := [x]) (d 2 rfl).2 rfl rfl)) ((fun e W' h => by have h1 := h.1; rw [ro_within_yes (by simp; omega)] at h1; exact ⟨_, h1, h.2, rfl⟩)),
  fun f s W c d i j k a => opv rfl rfl (by simp [go_sem, a.e 6 (d 3 rfl)]) rfl,
  fun f s W c d i j k a => opm (a.v 7 (d 4 rfl)), trivial⟩ ?_
 intro f2 s2 W2 hB2 g2 hg2 z2
 have fB2 := hB2.f (hB1.f fB0)
 obtain ⟨r2_2, br2_2⟩ := hB2.is 2
 have lr2_2 := hB2.lr 2 br2_2
 have k2_2 := kt hg2 2 (hB2.is 5)
 refine wp_ret ?_
 refine leave_one (N := 8) (.inr rfl) Try.results81 rfl k2_2 ?_
 exact ⟨rfl, fB2⟩
theorem ro_ck_index (lg : Nat → Int) (qa : Option Addr) (m cq : Nat) (w : World) (hQ : RdL w qa m lg) (hq : ∀ i, i < m → RdIn (lg i)) (gm : m ≤ 10) :
  Calls Try.prog 124 #[.slice qa m cq, .func (.func 81) #[] #[]] w (fun e w' => e = .returned (.int .i64 (-1)) ∧ Below w.heap.size w w') := by
 refine calls_fr Try.func124 Try.ntmps124 rfl rfl fun g hg => ?_
 have k0 : g 0 = .slice qa m cq := hg 0
 have k1 : g 1 = .func (.func 81) #[] #[] := hg 1
 clear hg
 have fB0 : Below w.heap.size w w := Below.refl _ _
 refine rw_ 1 [(4, 0)] [[]] (rel [iI 0])
  ⟨fun f s W b c d h j a => opz, trivial⟩ ?_
 intro f1 s1 W1 hB1 g1 hg1 z1
 have k1_0 := kt hg1 0 k0
 refine wp_seq_k fun K2 hK2 => ?_
 refine rw_ 3 [(6, 0), (7, 1), (8, 2)] [[], [0], []] (rel [is (.slice qa m cq), iI ((m : Int)), iI 0])
  ⟨fun f s W b c d h j a => opm (a.v 0 k1_0),
  fun f s W b c d h j a => opv rfl rfl (by simp [go_sem, a.e 6 (c 0 rfl)]) rfl,
  fun f s W b c d h j a => opz, trivial⟩ ?_
 intro f2 s2 W2 hB2 g2 hg2 z2
 have fB2 := hB2.f (hB1.f fB0)
 have k2_0 := kt hg2 0 k1_0
 have k2_1 := kt hg2 1 (kt hg1 1 k1)
 have k2_4 := kt hg2 4 (kt hg1 4 (hB1.is 0))
 have k2_7 := kt hg2 7 (hB2.is 1)
 have k2_8 := kt hg2 8 (hB2.is 2)
 refine wp_block ?_
 refine wp_loop_n (fun m_ a_ W_ => ∃ g_ : Nat → Value, a_ = fr 19 g_ ∧ (∃ k : Nat, m_ = m - k ∧ g_ 0 = .slice qa m cq ∧ g_ 1 = .func (.func 81) #[] #[] ∧ g_ 4 = .int .i64 0 ∧ g_ 7 = .int .i64 ((m : Int)) ∧ g_ 8 = .int .i64 ((k : Int)) ∧ Below w.heap.size w W_ ∧ W2.heap.size ≤ W_.heap.size ∧ (k ≤ m))) ⟨_, g2, rfl, 0, rfl, k2_0, k2_1, k2_4, k2_7, k2_8.trans (by rfl), fB2, Nat.le_refl _, (by omega)⟩ ?_
 rintro _ _ W_2 ⟨g_2, rfl, k, rfl, k_2_0, k_2_1, k_2_4, k_2_7, k_2_8, fB_2, z_2, lk0⟩
 refine rw_ 1 [(9, 0)] [[]] (rel [iB (decide ((k : Int) < (m : Int)))])
  ⟨fun f s W b c d h j a => opv rfl rfl (by simp [go_sem, a.e 8 k_2_8, a.e 7 k_2_7]) rfl, trivial⟩ ?_
 intro f3 s3 W3 hB3 g3 hg3 z3
 have fB3 := hB3.f fB_2
 have k3_8 := kt hg3 8 k_2_8
 have k3_9 := kt hg3 9 (hB3.is 0)
 refine wp_seq_k fun K5 hK5 => ?_
 refine wp_cond_split (t := decide ((k : Int) < (m : Int))) ((fr_eval rfl).trans k3_9) (fun hc6 => ?_) (fun hc6 => ?_)
 ·
  have hc6' := hc6; try simp only [ba] at hc6'
  have hkn : k < m := by omega
  obtain ⟨bo, oo, hqa, hO'⟩ := hQ.at hkn
  subst hqa
  ·
   refine wp_skip ?_
   refine hK5 _ _ ?_
   refine wp_seq_k fun K7 hK7 => ?_
   refine wp_block ?_
   refine rw_ 2 [(10, 0), (5, 1)] [[], [0]] (rel [iI ((k : Int)), iI ((k : Int))])
    ⟨fun f s W b c d h j a => opm (a.v 8 k3_8),
  fun f s W b c d h j a => opm (a.v 10 (c 0 rfl)), trivial⟩ ?_
   intro f4 s4 W4 hB4 g4 hg4 z4
   have fB4 := hB4.f fB3
   have k4_0 := kt hg4 0 (kt hg3 0 k_2_0)
   have k4_1 := kt hg4 1 (kt hg3 1 k_2_1)
   have k4_4 := kt hg4 4 (kt hg3 4 k_2_4)
   have k4_7 := kt hg4 7 (kt hg3 7 k_2_7)
   have k4_8 := kt hg4 8 k3_8
   have k4_5 := kt hg4 5 (hB4.is 1)
   refine rw_ 6 [(11, 0), (12, 1), (13, 2), (14, 3), (15, 4), (16, 5)] [[], [], [], [1, 2], [3], [0, 4]] (rel [is (.func (.func 81) #[] #[]), is (.slice ((some ⟨bo, oo, none⟩)) (m) (cq)), iI ((k : Int)), is (.pointer (some ⟨bo, oo + k * 2, none⟩)), is (.agg #[.int .i64 ((lg k)), .bool true]), iB false])
    ⟨fun f s W b c d h j a => opm (a.v 1 k4_1),
  fun f s W b c d h j a => opm (a.v 0 k4_0),
  fun f s W b c d h j a => opm (a.v 5 k4_5),
  fun f s W b c d h j a => by have li_ := Nat.not_le.2 (show k < m by omega); have li2_ : (k : Int) < (m : Int) := (by omega); exact opv rfl rfl (by simp [go_sem, a.e 12 (c 1 rfl), a.e 13 (c 2 rfl), li_, li2_]) rfl,
  fun f s W b c d h j a => by have l := bwt fB4 b; have cu_ := (hO'.below l).2 k (by omega); have cu0_ : W.cell? ⟨bo, oo + k * 2, none⟩ = some (.int .i64 (lg k)) := cu_.1; have cu1_ : W.cell? ⟨bo, oo + k * 2 + 1, none⟩ = some (.bool true) := cu_.2; exact opv rfl rfl (by simp [go_sem, a.e 14 (c 3 rfl), cu0_, cu1_]) rfl,
  fun f s W b c d h j a => opc rfl rfl (by simp [go_sem, a.e 15 (c 4 rfl), a.e 11 (c 0 rfl)]) (ro_chk1 (lg k) W (hq k (by omega))), trivial⟩ ?_
   intro f5 s5 W5 hB5 g5 hg5 z5
   have fB5 := hB5.f fB4
   have k5_0 := kt hg5 0 k4_0
   have k5_1 := kt hg5 1 k4_1
   have k5_4 := kt hg5 4 k4_4
   have k5_7 := kt hg5 7 k4_7
   have k5_8 := kt hg5 8 k4_8
   have k5_16 := kt hg5 16 (hB5.is 5)
   refine wp_cond_false ((fr_eval rfl).trans k5_16) ?_
   refine wp_skip ?_
   refine ibn ?_
   refine hK7 _ _ ?_
   refine ry 2 [(18, 0), (8, 1)] [[], [0]] (rel [iI ((k : Int) + 1), iI ((k : Int) + 1)])
    ⟨fun f s W b c d h j a => opv rfl rfl (by simp [go_sem, a.e 8 ((h 1 8 rfl rfl).trans k5_8), IntWalk.i64_in ((k : Int) + 1) (by omega)]) rfl,
  fun f s W b c d h j a => opm (a.v 18 (c 0 rfl)), trivial⟩ ?_
   intro f6 s6 W6 hB6 g6 hg6 z6
   have fB6 := hB6.f fB5
   refine wpe ?_
   have k6_0 := kt hg6 0 k5_0
   have k6_1 := kt hg6 1 k5_1
   have k6_4 := kt hg6 4 k5_4
   have k6_7 := kt hg6 7 k5_7
   have k6_8 := kt hg6 8 (hB6.is 1)
   refine then_normal ?_
   exact ⟨_, by omega, g6, rfl, k + 1, rfl, k6_0, k6_1, k6_4, k6_7, k6_8.trans (by go_num), fB6, (by omega), (by omega)⟩
 ·
  have hc6' := hc6; try simp only [ba] at hc6'
  refine wp_exit ?_
  refine then_exit ?_
  refine then_exit ?_
  refine inBlock_at ?_
  refine hK2 _ _ ?_
  refine rw_ 1 [(4, 0)] [[]] (rel [iI (-1)])
   ⟨fun f s W b c d h j a => opz, trivial⟩ ?_
  intro f7 s7 W7 hB7 g7 hg7 z7
  have fB7 := hB7.f fB3
  have k7_4 := kt hg7 4 (hB7.is 0)
  refine wp_ret ?_
  refine leave_one (N := 19) (.inr rfl) Try.results124 rfl k7_4 ?_
  exact ⟨rfl, fB7⟩
theorem ro_ck_contains (lg : Nat → Int) (qa : Option Addr) (m cq : Nat) (w : World) (hQ : RdL w qa m lg) (hq : ∀ i, i < m → RdIn (lg i)) (gm : m ≤ 10) :
  Calls Try.prog 80 #[.slice qa m cq, .func (.func 81) #[] #[]] w (fun e w' => e = .returned (.bool false) ∧ Below w.heap.size w w') := by
 refine calls_fr Try.func80 Try.ntmps80 rfl rfl fun g hg => ?_
 have k0 : g 0 = .slice qa m cq := hg 0
 have k1 : g 1 = .func (.func 81) #[] #[] := hg 1
 clear hg
 have fB0 : Below w.heap.size w w := Below.refl _ _
 refine rw_ 1 [(4, 0)] [[]] (rel [iB false])
  ⟨fun f s W b c d h j a => opz, trivial⟩ ?_
 intro f1 s1 W1 hB1 g1 hg1 z1
 have fB1 := hB1.f fB0
 have k1_0 := kt hg1 0 k0
 have k1_1 := kt hg1 1 k1
 refine rw_ 5 [(5, 0), (6, 1), (7, 2), (8, 3), (4, 4)] [[], [], [0, 1], [2], [3]] (rel [is (.slice qa m cq), is (.func (.func 81) #[] #[]), iI (-1), iB false, iB false])
  ⟨fun f s W b c d h j a => opm (a.v 0 k1_0),
  fun f s W b c d h j a => opm (a.v 1 k1_1),
  fun f s W b c d h j a => by have k := bwt fB1 b; exact opc rfl rfl (by simp [go_sem, a.e 5 (c 0 rfl), a.e 6 (c 1 rfl)]) (ro_ck_index lg qa m cq W (hQ.below k) hq gm),
  fun f s W b c d h j a => opv rfl rfl (by simp [go_sem, a.e 7 (c 2 rfl)]) rfl,
  fun f s W b c d h j a => opm (a.v 8 (c 3 rfl)), trivial⟩ ?_
 intro f2 s2 W2 hB2 g2 hg2 z2
 have fB2 := hB2.f fB1
 have k2_4 := kt hg2 4 (hB2.is 4)
 refine wp_ret ?_
 refine leave_one (N := 9) (.inr rfl) Try.results80 rfl k2_4 ?_
 exact ⟨rfl, fB2⟩
theorem ro_check_yes (nu de tl : Int) (ss : Nat → Int × Int) (ra : Option Addr) (n c : Nat) (w : World) (hU : RoUp nu de tl) (hO : SpL w ra n ss) (ho : ∀ i, i < n → RoIn tl (ss i)) (gn : n ≤ 6) (lg : Nat → Int) (qa : Option Addr) (m cq : Nat) (hQ : RdL w qa m lg) (hq : ∀ i, i < m → RdIn (lg i)) (gm : m ≤ 10) :
  Calls Try.prog 38 #[.agg #[.int .i64 nu, .int .i64 de, .int .i64 tl, .slice ra n c], .slice qa m cq] w (fun e w' => e = .returned (.int .i64 0) ∧ Below w.heap.size w w') := by
 have hm10_ : decide (10 < (m : Int)) = false := decide_eq_false (by omega)
 refine calls_fr Try.func38 Try.ntmps38 rfl rfl fun g hg => ?_
 have k0 : g 0 = .agg #[.int .i64 nu, .int .i64 de, .int .i64 tl, .slice ra n c] := hg 0
 have k1 : g 1 = .slice qa m cq := hg 1
 clear hg
 have fB0 : Below w.heap.size w w := Below.refl _ _
 refine rw_ 2 [(2, 0), (4, 1)] [[], []] (rel [bx 0 #[.int .i64 nu, .int .i64 de, .int .i64 tl, .slice ra n c] 80, iI 0])
  ⟨fun f s W d h j k l a => opb rfl rfl (by simp [go_sem, a.e 0 k0]),
  fun f s W d h j k l a => opz, trivial⟩ ?_
 intro f1 s1 W1 hB1 g1 hg1 z1
 have fB1 := hB1.f fB0
 obtain ⟨r1_0, br1_0⟩ := hB1.is 0
 have lr1_0 := hB1.lr 0 br1_0
 have k1_2 := kt hg1 2 r1_0
 refine wp_seq_k fun K2 hK2 => ?_
 refine rw_ 3 [(6, 0), (7, 1), (5, 2)] [[], [0], [1]] (rel [is (.agg #[.int .i64 nu, .int .i64 de, .int .i64 tl, .slice ra n c]), iI 0, iI 0])
  ⟨fun f s W d h j k l a => opl rfl rfl rfl (a.v 2 k1_2) (bwb br1_0 d) Try.underlying80 rfl (by kernel_rfl) rfl,
  fun f s W d h j k l a => by have o := bwt fB1 d; exact opc rfl rfl (by simp [go_sem, a.e 6 (h 0 rfl)]) (ro_stand_yes nu de tl ss ra n c W hU (hO.below o) ho gn),
  fun f s W d h j k l a => opm (a.v 7 (h 1 rfl)), trivial⟩ ?_
 intro f2 s2 W2 hB2 g2 hg2 z2
 have k2_5 := kt hg2 5 (hB2.is 2)
 refine rw_ 2 [(8, 0), (9, 1)] [[], [0]] (rel [iI 0, iB false])
  ⟨fun f s W d h j k l a => opm (a.v 5 k2_5),
  fun f s W d h j k l a => opv rfl rfl (by simp [go_sem, a.e 8 (h 0 rfl)]) rfl, trivial⟩ ?_
 intro f3 s3 W3 hB3 g3 hg3 z3
 have k3_1 := kt hg3 1 (kt hg2 1 (kt hg1 1 k1))
 have k3_9 := kt hg3 9 (hB3.is 1)
 refine wp_cond_false ((fr_eval rfl).trans k3_9) ?_
 refine wp_skip ?_
 refine hK2 _ _ ?_
 refine wp_seq_k fun K6 hK6 => ?_
 refine wp_block ?_
 refine rw_ 4 [(12, 0), (13, 1), (14, 2), (11, 3)] [[], [0], [1], [2]] (rel [is (.slice qa m cq), iI ((m : Int)), iB false, iB false])
  ⟨fun f s W d h j k l a => opm (a.v 1 k3_1),
  fun f s W d h j k l a => opv rfl rfl (by simp [go_sem, a.e 12 (h 0 rfl)]) rfl,
  fun f s W d h j k l a => opv rfl rfl (by simp [go_sem, a.e 13 (h 1 rfl), hm10_]) rfl,
  fun f s W d h j k l a => opm (a.v 14 (h 2 rfl)), trivial⟩ ?_
 intro f4 s4 W4 hB4 g4 hg4 z4
 have fB4 := hB4.f (hB3.f (hB2.f fB1))
 have k4_1 := kt hg4 1 k3_1
 have k4_11 := kt hg4 11 (hB4.is 3)
 refine wp_cond_false ((fr_eval rfl).trans k4_11) ?_
 refine rw_ 3 [(16, 0), (17, 1), (15, 2)] [[], [0], [1]] (rel [is (.slice qa m cq), iB false, iB false])
  ⟨fun f s W d h j k l a => opm (a.v 1 k4_1),
  fun f s W d h j k l a => by have o := bwt fB4 d; exact opc rfl rfl (by simp [go_sem, a.e 16 (h 0 rfl)]) (ro_ck_contains lg qa m cq W (hQ.below o) hq gm),
  fun f s W d h j k l a => opm (a.v 17 (h 1 rfl)), trivial⟩ ?_
 intro f5 s5 W5 hB5 g5 hg5 z5
 have k5_15 := kt hg5 15 (hB5.is 2)
 refine wp_cond_false ((fr_eval rfl).trans k5_15) ?_
 refine wp_skip ?_
 refine ibn ?_
 refine hK6 _ _ ?_
 refine rw_ 1 [(4, 0)] [[]] (rel [iI 0])
  ⟨fun f s W d h j k l a => opz, trivial⟩ ?_
 intro f6 s6 W6 hB6 g6 hg6 z6
 have fB6 := hB6.f (hB5.f fB4)
 have k6_4 := kt hg6 4 (hB6.is 0)
 refine wp_ret ?_
 refine leave_one (N := 18) (.inr rfl) Try.results38 rfl k6_4 ?_
 exact ⟨rfl, fB6⟩
theorem quo_bd {a d : Int} (ha : 0 ≤ a ∧ a ≤ 1000000000000) (hd : 1 ≤ d) : 0 ≤ a / d ∧ a / d ≤ 1000000000000 :=
  ⟨Int.ediv_nonneg ha.1 (by omega), Int.le_trans (Int.ediv_le_self _ ha.1) ha.2⟩
theorem ro_up (x d : Int) (w : World) (hx : 0 ≤ x ∧ x ≤ 100000000000) (hd_ : 1 ≤ d ∧ d ≤ 10000) :
  Calls Try.prog 42 #[.int .i64 x, .int .i64 d] w (fun e w' => e = .returned (.int .i64 (upF x d)) ∧ Below w.heap.size w w') := by
 refine calls_fr Try.func42 Try.ntmps42 rfl rfl fun g hg => ?_
 have k0 : g 0 = .int .i64 x := hg 0
 have k1 : g 1 = .int .i64 d := hg 1
 clear hg
 have fB0 : Below w.heap.size w w := Below.refl _ _
 refine rw_ 1 [(4, 0)] [[]] (rel [iI 0])
  ⟨fun f s W c h i j k b => opz, trivial⟩ ?_
 intro f1 s1 W1 hB1 g1 hg1 z1
 have k1_0 := kt hg1 0 k0
 have k1_1 := kt hg1 1 k1
 refine rw_ 7 [(5, 0), (6, 1), (7, 2), (8, 3), (9, 4), (10, 5), (4, 6)] [[], [], [0, 1], [2], [], [3, 4], [5]] (rel [iI x, iI d, iI (x + d), iI ((x + d) - 1), iI d, iI ((((x + d) - 1) / d)), iI ((((x + d) - 1) / d))])
  ⟨fun f s W c h i j k b => opm (b.v 0 k1_0),
  fun f s W c h i j k b => opm (b.v 1 k1_1),
  fun f s W c h i j k b => opv rfl rfl (by simp [go_sem, b.e 5 (h 0 rfl), b.e 6 (h 1 rfl), IntWalk.i64_in (x + d) (by omega)]) rfl,
  fun f s W c h i j k b => opv rfl rfl (by simp [go_sem, b.e 7 (h 2 rfl), IntWalk.i64_in ((x + d) - 1) (by omega)]) rfl,
  fun f s W c h i j k b => opm (b.v 1 k1_1),
  fun f s W c h i j k b => by have qb_ := quo_bd (a := (x + d) - 1) (d := d) (by omega) (by omega); have qu_ : ((x + d) - 1).tdiv d = (((x + d) - 1) / d) := Int.tdiv_eq_ediv_of_nonneg (by omega); have qw_ := IntWalk.i64_in (((x + d) - 1) / d) (by omega); have qy_ : ¬ d = 0 := (by omega); exact opv rfl rfl (by simp [go_sem, b.e 8 (h 3 rfl), b.e 9 (h 4 rfl), qu_, qw_, qy_]) rfl,
  fun f s W c h i j k b => opm (b.v 10 (h 5 rfl)), trivial⟩ ?_
 intro f2 s2 W2 hB2 g2 hg2 z2
 have fB2 := hB2.f (hB1.f fB0)
 have k2_4 := kt hg2 4 (hB2.is 6)
 refine wp_ret ?_
 refine leave_one (N := 11) (.inr rfl) Try.results42 rfl k2_4 ?_
 exact ⟨rfl, fB2⟩
theorem ro_down (nu de tl : Int) (ra : Option Addr) (n c : Nat) (x : Int) (w : World) (hU : RoUp nu de tl) (hx : 0 ≤ x ∧ x ≤ 1000000) :
  Calls Try.prog 118 #[.agg #[.int .i64 nu, .int .i64 de, .int .i64 tl, .slice ra n c], .int .i64 x] w (fun e w' => e = .returned (.int .i64 ((x * de) / nu)) ∧ Below w.heap.size w w') := by
 have hd_ := hU.d
 have hu_ := hU.u
 have hm_ := tr_mul hx (show 0 ≤ de ∧ de ≤ 10000 by omega)
 refine calls_fr Try.func118 Try.ntmps118 rfl rfl fun g hg => ?_
 have k0 : g 0 = .agg #[.int .i64 nu, .int .i64 de, .int .i64 tl, .slice ra n c] := hg 0
 have k1 : g 1 = .int .i64 x := hg 1
 clear hg
 have fB0 : Below w.heap.size w w := Below.refl _ _
 refine rw_ 2 [(2, 0), (4, 1)] [[], []] (rel [bx 0 #[.int .i64 nu, .int .i64 de, .int .i64 tl, .slice ra n c] 128, iI 0])
  ⟨fun f s W i j k l m h => opb rfl rfl (by simp [go_sem, h.e 0 k0]),
  fun f s W i j k l m h => opz, trivial⟩ ?_
 intro f1 s1 W1 hB1 g1 hg1 z1
 obtain ⟨r1_0, br1_0⟩ := hB1.is 0
 have lr1_0 := hB1.lr 0 br1_0
 have k1_1 := kt hg1 1 k1
 have k1_2 := kt hg1 2 r1_0
 refine rw_ 12 [(5, 0), (6, 1), (7, 2), (8, 3), (9, 4), (10, 5), (11, 6), (12, 7), (13, 8), (14, 9), (15, 10), (4, 11)] [[], [], [1], [2], [3], [0, 4], [], [6], [7], [8], [5, 9], [10]] (rel [iI x, is (.pointer (some ⟨(s1 0), 0, none⟩)), is (.pointer (some ⟨(s1 0), 0, none⟩)), is (.pointer (some ⟨(s1 0), 1, none⟩)), iI de, iI (x * de), is (.pointer (some ⟨(s1 0), 0, none⟩)), is (.pointer (some ⟨(s1 0), 0, none⟩)), is (.pointer (some ⟨(s1 0), 0, none⟩)), iI nu, iI (((x * de) / nu)), iI (((x * de) / nu))])
  ⟨fun f s W i j k l m h => opm (h.v 1 k1_1),
  fun f s W i j k l m h => opv rfl rfl (by simp [go_sem, h.e 2 k1_2]) rfl,
  fun f s W i j k l m h => opv rfl rfl (by simp [go_sem, h.e 6 (j 1 rfl)]) rfl,
  fun f s W i j k l m h => opv rfl rfl (by simp [go_sem, h.e 7 (j 2 rfl)]) rfl,
  fun f s W i j k l m h => opv rfl rfl (by simp [go_sem, h.e 8 (j 3 rfl), cb br1_0 i 1]) rfl,
  fun f s W i j k l m h => opv rfl rfl (by simp [go_sem, h.e 5 (j 0 rfl), h.e 9 (j 4 rfl), IntWalk.i64_in (x * de) (by omega)]) rfl,
  fun f s W i j k l m h => opv rfl rfl (by simp [go_sem, h.e 2 k1_2]) rfl,
  fun f s W i j k l m h => opv rfl rfl (by simp [go_sem, h.e 11 (j 6 rfl)]) rfl,
  fun f s W i j k l m h => opv rfl rfl (by simp [go_sem, h.e 12 (j 7 rfl)]) rfl,
  fun f s W i j k l m h => opv rfl rfl (by simp [go_sem, h.e 13 (j 8 rfl), cb br1_0 i 0]) rfl,
  fun f s W i j k l m h => by have qb_ := quo_bd (a := x * de) (d := nu) (by omega) (by omega); have qu_ : (x * de).tdiv nu = ((x * de) / nu) := Int.tdiv_eq_ediv_of_nonneg (by omega); have qw_ := IntWalk.i64_in ((x * de) / nu) (by omega); have qy_ : ¬ nu = 0 := (by omega); exact opv rfl rfl (by simp [go_sem, h.e 10 (j 5 rfl), h.e 14 (j 9 rfl), qu_, qw_, qy_]) rfl,
  fun f s W i j k l m h => opm (h.v 15 (j 10 rfl)), trivial⟩ ?_
 intro f2 s2 W2 hB2 g2 hg2 z2
 have fB2 := hB2.f (hB1.f fB0)
 have k2_4 := kt hg2 4 (hB2.is 11)
 refine wp_ret ?_
 refine leave_one (N := 16) (.inr rfl) Try.results118 rfl k2_4 ?_
 exact ⟨rfl, fB2⟩
theorem ro_places (nu de tl : Int) (ra : Option Addr) (n c : Nat) (x y : Int) (w : World) (hU : RoUp nu de tl) (hx : 0 ≤ x ∧ x ≤ 1000000) (hy : 0 ≤ y ∧ y ≤ 1000000) :
  Calls Try.prog 68 #[.agg #[.int .i64 nu, .int .i64 de, .int .i64 tl, .slice ra n c], .agg #[.int .i64 x, .int .i64 y]] w (fun e w' => e = .returned (.agg #[.int .i64 ((x * de) / nu), .int .i64 ((y * de) / nu)]) ∧ Below w.heap.size w w') := by
 refine calls_fr Try.func68 Try.ntmps68 rfl rfl fun g hg => ?_
 have k0 : g 0 = .agg #[.int .i64 nu, .int .i64 de, .int .i64 tl, .slice ra n c] := hg 0
 have k1 : g 1 = .agg #[.int .i64 x, .int .i64 y] := hg 1
 clear hg
 have fB0 : Below w.heap.size w w := Below.refl _ _
 refine rw_ 3 [(2, 0), (3, 1), (4, 2)] [[], [], []] (rel [bx 0 #[.int .i64 nu, .int .i64 de, .int .i64 tl, .slice ra n c] 128, bx 1 #[.int .i64 x, .int .i64 y] 43, bx 2 #[.int .i64 0, .int .i64 0] 43])
  ⟨fun f s W d h i j k a => opb rfl rfl (by simp [go_sem, a.e 0 k0]),
  fun f s W d h i j k a => opb rfl rfl (by simp [go_sem, a.e 1 k1]),
  fun f s W d h i j k a => opb rfl rfl (by simp [go_sem]), trivial⟩ ?_
 intro f1 s1 W1 hB1 g1 hg1 z1
 obtain ⟨r1_0, br1_0⟩ := hB1.is 0
 have lr1_0 := hB1.lr 0 br1_0
 obtain ⟨r1_1, br1_1⟩ := hB1.is 1
 have lr1_1 := hB1.lr 1 br1_1
 obtain ⟨r1_2, br1_2⟩ := hB1.is 2
 have lr1_2 := hB1.lr 2 br1_2
 have ne1_0_1 := hB1.nb 0 1
 have ne1_0_2 := hB1.nb 0 2
 have ne1_1_2 := hB1.nb 1 2
 have k1_2 := kt hg1 2 r1_0
 have k1_3 := kt hg1 3 r1_1
 refine wp_seq_k fun K2 hK2 => ?_
 refine ry 9 [(5, 0), (6, 1), (7, 2), (8, 3), (9, 4), (10, 5), (11, 6), (12, 7), (13, 8)] [[], [], [1], [0, 2], [], [], [5], [4, 6], [3, 7], [0, 1, 2, 3, 4, 5, 6, 7, 8]] (rel [is (.agg #[.int .i64 nu, .int .i64 de, .int .i64 tl, .slice ra n c]), is (.pointer (some ⟨(s1 1), 0, none⟩)), iI x, iI (((x * de) / nu)), is (.agg #[.int .i64 nu, .int .i64 de, .int .i64 tl, .slice ra n c]), is (.pointer (some ⟨(s1 1), 1, none⟩)), iI y, iI (((y * de) / nu)), is (.agg #[.int .i64 (((x * de) / nu)), .int .i64 (((y * de) / nu))])])
  ⟨fun f s W d h i j k a => opl rfl rfl rfl (a.v 2 k1_2) (bwb br1_0 d) Try.underlying128 rfl (by kernel_rfl) rfl,
  fun f s W d h i j k a => opv rfl rfl (by simp [go_sem, a.e 3 k1_3]) rfl,
  fun f s W d h i j k a => opv rfl rfl (by simp [go_sem, a.e 6 (h 1 rfl), cb br1_1 d 0]) rfl,
  fun f s W d h i j k a => opc rfl rfl (by simp [go_sem, a.e 5 (h 0 rfl), a.e 7 (h 2 rfl)]) (ro_down nu de tl ra n c (x) W hU (by omega)),
  fun f s W d h i j k a => opl rfl rfl rfl (a.v 2 k1_2) (bwb br1_0 d) Try.underlying128 rfl (by kernel_rfl) rfl,
  fun f s W d h i j k a => opv rfl rfl (by simp [go_sem, a.e 3 k1_3]) rfl,
  fun f s W d h i j k a => opv rfl rfl (by simp [go_sem, a.e 10 (h 5 rfl), cb br1_1 d 1]) rfl,
  fun f s W d h i j k a => opc rfl rfl (by simp [go_sem, a.e 9 (h 4 rfl), a.e 11 (h 6 rfl)]) (ro_down nu de tl ra n c (y) W hU (by omega)),
  fun f s W d h i j k a => opv rfl rfl (by simp [go_sem, a.e 8 (h 3 rfl), a.e 12 (h 7 rfl)]) rfl, trivial⟩ ?_
 intro f2 s2 W2 hB2 g2 hg2 z2
 have fB2 := hB2.f (hB1.f fB0)
 have b2_2 := hB2.b br1_2
 have k2_4 := kt hg2 4 (kt hg1 4 r1_2)
 have k2_13 := kt hg2 13 (hB2.is 8)
 obtain ⟨W3, hW3⟩ : ∃ W', W' = W2.setRow (s1 2) #[.int .i64 (((x * de) / nu)), .int .i64 (((y * de) / nu))] := ⟨_, rfl⟩
 refine tsk (o := _) rfl ⟨rfl, rfl⟩ (run_seg hW3 (fr_ev k2_4) (fr_ev k2_13) b2_2 rfl rfl rfl rfl) ?_
 obtain ⟨fB3, nb3, ot3, z3⟩ := sgf hW3 fB2 b2_2 (by omega)
 clear hW3
 refine wpe ?_
 refine hK2 _ _ ?_
 refine wp_ret ?_
 refine leave_gen (v := .agg #[.int .i64 (((x * de) / nu)), .int .i64 (((y * de) / nu))]) (.inr rfl) (by simp [results, Try.results68, go_sem, frv 14 k2_4, cl nb3 0, cl nb3 1]) ?_
 exact ⟨rfl, fB3⟩
theorem ro_amounts (nu de tl : Int) (ra : Option Addr) (n c : Nat) (x y : Int) (w : World) (hU : RoUp nu de tl) (hx : 0 ≤ x ∧ x ≤ 1000000) (hy : 0 ≤ y ∧ y ≤ 1000000) :
  Calls Try.prog 129 #[.agg #[.int .i64 nu, .int .i64 de, .int .i64 tl, .slice ra n c], .int .i64 x, .int .i64 y] w (fun e w' => e = .returned (.agg #[.int .i64 ((x * nu) / de + 1), .int .i64 (upF (y * nu) de - 1)]) ∧ Below w.heap.size w w') := by
 have hd_ := hU.d
 have hu_ := hU.u
 have hm_ := tr_mul hx (show 0 ≤ nu ∧ nu ≤ 20000 by omega)
 have hm2_ := tr_mul hy (show 0 ≤ nu ∧ nu ≤ 20000 by omega)
 have hq_ := quo_bd (a := x * nu) (d := de) (by omega) (by omega)
 have hq2_ : 0 ≤ upF (y * nu) de ∧ upF (y * nu) de ≤ 1000000000000 := quo_bd (by omega) (by omega)
 refine calls_fr Try.func129 Try.ntmps129 rfl rfl fun g hg => ?_
 have k0 : g 0 = .agg #[.int .i64 nu, .int .i64 de, .int .i64 tl, .slice ra n c] := hg 0
 have k1 : g 1 = .int .i64 x := hg 1
 have k2 : g 2 = .int .i64 y := hg 2
 clear hg
 have fB0 : Below w.heap.size w w := Below.refl _ _
 refine rw_ 2 [(3, 0), (6, 1)] [[], []] (rel [bx 0 #[.int .i64 nu, .int .i64 de, .int .i64 tl, .slice ra n c] 128, bx 1 #[.int .i64 0, .int .i64 0] 43])
  ⟨fun f s W i j k l m h => opb rfl rfl (by simp [go_sem, h.e 0 k0]),
  fun f s W i j k l m h => opb rfl rfl (by simp [go_sem]), trivial⟩ ?_
 intro f1 s1 W1 hB1 g1 hg1 z1
 obtain ⟨r1_0, br1_0⟩ := hB1.is 0
 have lr1_0 := hB1.lr 0 br1_0
 obtain ⟨r1_1, br1_1⟩ := hB1.is 1
 have lr1_1 := hB1.lr 1 br1_1
 have ne1_0_1 := hB1.nb 0 1
 have k1_1 := kt hg1 1 k1
 have k1_2 := kt hg1 2 k2
 have k1_3 := kt hg1 3 r1_0
 refine wp_seq_k fun K2 hK2 => ?_
 refine ry 25 [(7, 0), (8, 1), (9, 2), (10, 3), (11, 4), (12, 5), (13, 6), (14, 7), (15, 8), (16, 9), (17, 10), (18, 11), (19, 12), (20, 13), (21, 14), (22, 15), (23, 16), (24, 17), (25, 18), (26, 19), (27, 20), (28, 21), (29, 22), (30, 23), (31, 24)] [[], [], [1], [2], [3], [0, 4], [], [6], [7], [8], [5, 9], [10], [], [], [13], [14], [15], [12, 16], [], [18], [19], [20], [17, 21], [22], [11, 23], [0, 1, 2, 3, 4, 5, 6, 7, 8, 9, 10, 11, 12, 13, 14, 15, 16, 17, 18, 19, 20, 21, 22, 23, 24]] (rel [iI x, is (.pointer (some ⟨(s1 0), 0, none⟩)), is (.pointer (some ⟨(s1 0), 0, none⟩)), is (.pointer (some ⟨(s1 0), 0, none⟩)), iI nu, iI (x * nu), is (.pointer (some ⟨(s1 0), 0, none⟩)), is (.pointer (some ⟨(s1 0), 0, none⟩)), is (.pointer (some ⟨(s1 0), 1, none⟩)), iI de, iI (((x * nu) / de)), iI (((x * nu) / de) + 1), iI y, is (.pointer (some ⟨(s1 0), 0, none⟩)), is (.pointer (some ⟨(s1 0), 0, none⟩)), is (.pointer (some ⟨(s1 0), 0, none⟩)), iI nu, iI (y * nu), is (.pointer (some ⟨(s1 0), 0, none⟩)), is (.pointer (some ⟨(s1 0), 0, none⟩)), is (.pointer (some ⟨(s1 0), 1, none⟩)), iI de, iI ((upF (y * nu) de)), iI ((upF (y * nu) de) - 1), is (.agg #[.int .i64 (((x * nu) / de) + 1), .int .i64 ((upF (y * nu) de) - 1)])])
  ⟨fun f s W i j k l m h => opm (h.v 1 k1_1),
  fun f s W i j k l m h => opv rfl rfl (by simp [go_sem, h.e 3 k1_3]) rfl,
  fun f s W i j k l m h => opv rfl rfl (by simp [go_sem, h.e 8 (j 1 rfl)]) rfl,
  fun f s W i j k l m h => opv rfl rfl (by simp [go_sem, h.e 9 (j 2 rfl)]) rfl,
  fun f s W i j k l m h => opv rfl rfl (by simp [go_sem, h.e 10 (j 3 rfl), cb br1_0 i 0]) rfl,
  fun f s W i j k l m h => opv rfl rfl (by simp [go_sem, h.e 7 (j 0 rfl), h.e 11 (j 4 rfl), IntWalk.i64_in (x * nu) (by omega)]) rfl,
  fun f s W i j k l m h => opv rfl rfl (by simp [go_sem, h.e 3 k1_3]) rfl,
  fun f s W i j k l m h => opv rfl rfl (by simp [go_sem, h.e 13 (j 6 rfl)]) rfl,
  fun f s W i j k l m h => opv rfl rfl (by simp [go_sem, h.e 14 (j 7 rfl)]) rfl,
  fun f s W i j k l m h => opv rfl rfl (by simp [go_sem, h.e 15 (j 8 rfl), cb br1_0 i 1]) rfl,
  fun f s W i j k l m h => by have qb_ := quo_bd (a := x * nu) (d := de) (by omega) (by omega); have qu_ : (x * nu).tdiv de = ((x * nu) / de) := Int.tdiv_eq_ediv_of_nonneg (by omega); have qw_ := IntWalk.i64_in ((x * nu) / de) (by omega); have qy_ : ¬ de = 0 := (by omega); exact opv rfl rfl (by simp [go_sem, h.e 12 (j 5 rfl), h.e 16 (j 9 rfl), qu_, qw_, qy_]) rfl,
  fun f s W i j k l m h => opv rfl rfl (by simp [go_sem, h.e 17 (j 10 rfl), IntWalk.i64_in (((x * nu) / de) + 1) (by omega)]) rfl,
  fun f s W i j k l m h => opm (h.v 2 k1_2),
  fun f s W i j k l m h => opv rfl rfl (by simp [go_sem, h.e 3 k1_3]) rfl,
  fun f s W i j k l m h => opv rfl rfl (by simp [go_sem, h.e 20 (j 13 rfl)]) rfl,
  fun f s W i j k l m h => opv rfl rfl (by simp [go_sem, h.e 21 (j 14 rfl)]) rfl,
  fun f s W i j k l m h => opv rfl rfl (by simp [go_sem, h.e 22 (j 15 rfl), cb br1_0 i 0]) rfl,
  fun f s W i j k l m h => opv rfl rfl (by simp [go_sem, h.e 19 (j 12 rfl), h.e 23 (j 16 rfl), IntWalk.i64_in (y * nu) (by omega)]) rfl,
  fun f s W i j k l m h => opv rfl rfl (by simp [go_sem, h.e 3 k1_3]) rfl,
  fun f s W i j k l m h => opv rfl rfl (by simp [go_sem, h.e 25 (j 18 rfl)]) rfl,
  fun f s W i j k l m h => opv rfl rfl (by simp [go_sem, h.e 26 (j 19 rfl)]) rfl,
  fun f s W i j k l m h => opv rfl rfl (by simp [go_sem, h.e 27 (j 20 rfl), cb br1_0 i 1]) rfl,
  fun f s W i j k l m h => opc rfl rfl (by simp [go_sem, h.e 24 (j 17 rfl), h.e 28 (j 21 rfl)]) (ro_up (y * nu) (de) W (by omega) (by omega)),
  fun f s W i j k l m h => opv rfl rfl (by simp [go_sem, h.e 29 (j 22 rfl), IntWalk.i64_in ((upF (y * nu) de) - 1) (by omega)]) rfl,
  fun f s W i j k l m h => opv rfl rfl (by simp [go_sem, h.e 18 (j 11 rfl), h.e 30 (j 23 rfl)]) rfl, trivial⟩ ?_
 intro f2 s2 W2 hB2 g2 hg2 z2
 have fB2 := hB2.f (hB1.f fB0)
 have b2_1 := hB2.b br1_1
 have k2_6 := kt hg2 6 (kt hg1 6 r1_1)
 have k2_31 := kt hg2 31 (hB2.is 24)
 obtain ⟨W3, hW3⟩ : ∃ W', W' = W2.setRow (s1 1) #[.int .i64 (((x * nu) / de) + 1), .int .i64 ((upF (y * nu) de) - 1)] := ⟨_, rfl⟩
 refine tsk (o := _) rfl ⟨rfl, rfl⟩ (run_seg hW3 (fr_ev k2_6) (fr_ev k2_31) b2_1 rfl rfl rfl rfl) ?_
 obtain ⟨fB3, nb3, ot3, z3⟩ := sgf hW3 fB2 b2_1 (by omega)
 clear hW3
 refine wpe ?_
 refine hK2 _ _ ?_
 refine wp_ret ?_
 refine leave_gen (v := .agg #[.int .i64 (((x * nu) / de) + 1), .int .i64 ((upF (y * nu) de) - 1)]) (.inr rfl) (by simp [results, Try.results129, go_sem, frv 32 k2_6, cl nb3 0, cl nb3 1]) ?_
 exact ⟨rfl, fB3⟩
theorem ro_meet (a0 a1 b0 b1 : Int) (w : World) :
  Calls Try.prog 128 #[.agg #[.int .i64 a0, .int .i64 a1], .agg #[.int .i64 b0, .int .i64 b1]] w (fun e w' => e = .returned (.bool (meetF (a0, a1) (b0, b1))) ∧ Below w.heap.size w w') := by
 refine calls_fr Try.func128 Try.ntmps128 rfl rfl fun g hg => ?_
 have k0 : g 0 = .agg #[.int .i64 a0, .int .i64 a1] := hg 0
 have k1 : g 1 = .agg #[.int .i64 b0, .int .i64 b1] := hg 1
 clear hg
 have fB0 : Below w.heap.size w w := Below.refl _ _
 refine rw_ 3 [(2, 0), (3, 1), (4, 2)] [[], [], []] (rel [bx 0 #[.int .i64 a0, .int .i64 a1] 43, bx 1 #[.int .i64 b0, .int .i64 b1] 43, iB false])
  ⟨fun f s W c d h i j a => opb rfl rfl (by simp [go_sem, a.e 0 k0]),
  fun f s W c d h i j a => opb rfl rfl (by simp [go_sem, a.e 1 k1]),
  fun f s W c d h i j a => opz, trivial⟩ ?_
 intro f1 s1 W1 hB1 g1 hg1 z1
 obtain ⟨r1_0, br1_0⟩ := hB1.is 0
 have lr1_0 := hB1.lr 0 br1_0
 obtain ⟨r1_1, br1_1⟩ := hB1.is 1
 have lr1_1 := hB1.lr 1 br1_1
 have ne1_0_1 := hB1.nb 0 1
 have k1_2 := kt hg1 2 r1_0
 have k1_3 := kt hg1 3 r1_1
 refine rw_ 12 [(5, 0), (6, 1), (7, 2), (8, 3), (9, 4), (10, 5), (11, 6), (12, 7), (13, 8), (14, 9), (15, 10), (4, 11)] [[], [0], [], [2], [1, 3], [], [5], [], [7], [6, 8], [4, 9], [10]] (rel [is (.pointer (some ⟨(s1 0), 0, none⟩)), iI a0, is (.pointer (some ⟨(s1 1), 0, none⟩)), iI b0, iI (max a0 b0), is (.pointer (some ⟨(s1 0), 1, none⟩)), iI a1, is (.pointer (some ⟨(s1 1), 1, none⟩)), iI b1, iI (min a1 b1), iB (decide ((max a0 b0) ≤ (min a1 b1))), iB (decide ((max a0 b0) ≤ (min a1 b1)))])
  ⟨fun f s W c d h i j a => opv rfl rfl (by simp [go_sem, a.e 2 k1_2]) rfl,
  fun f s W c d h i j a => opv rfl rfl (by simp [go_sem, a.e 5 (d 0 rfl), cb br1_0 c 0]) rfl,
  fun f s W c d h i j a => opv rfl rfl (by simp [go_sem, a.e 3 k1_3]) rfl,
  fun f s W c d h i j a => opv rfl rfl (by simp [go_sem, a.e 7 (d 2 rfl), cb br1_1 c 0]) rfl,
  fun f s W c d h i j a => opv rfl rfl (by simp [go_sem, a.e 6 (d 1 rfl), a.e 8 (d 3 rfl)]) rfl,
  fun f s W c d h i j a => opv rfl rfl (by simp [go_sem, a.e 2 k1_2]) rfl,
  fun f s W c d h i j a => opv rfl rfl (by simp [go_sem, a.e 10 (d 5 rfl), cb br1_0 c 1]) rfl,
  fun f s W c d h i j a => opv rfl rfl (by simp [go_sem, a.e 3 k1_3]) rfl,
  fun f s W c d h i j a => opv rfl rfl (by simp [go_sem, a.e 12 (d 7 rfl), cb br1_1 c 1]) rfl,
  fun f s W c d h i j a => opv rfl rfl (by simp [go_sem, a.e 11 (d 6 rfl), a.e 13 (d 8 rfl)]) rfl,
  fun f s W c d h i j a => opv rfl rfl (by simp [go_sem, a.e 9 (d 4 rfl), a.e 14 (d 9 rfl)]) rfl,
  fun f s W c d h i j a => opm (a.v 15 (d 10 rfl)), trivial⟩ ?_
 intro f2 s2 W2 hB2 g2 hg2 z2
 have fB2 := hB2.f (hB1.f fB0)
 have k2_4 := kt hg2 4 (hB2.is 11)
 refine wp_ret ?_
 refine leave_one (N := 16) (.inr rfl) Try.results128 rfl k2_4 ?_
 exact ⟨rfl, fB2⟩
end Go.Proofs.Ytcgccflcjejlhaa
