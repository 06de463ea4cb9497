/- Part of the proof: what the claim leans on. -/
import Derived.Test.YtolnpbpeifpbjaaQAD
import Derived.Test.YtolnpbpeifpbjaaQAG
import Derived.Test.YtolnpbpeifpbjaaQAF
import Derived.Test.YtolnpbpeifpbjaaQAH
set_option linter.unusedSimpArgs false
set_option linter.unusedVariables false
namespace Go.Proofs.Ytolnpbpeifpbjaa
open Go.RowKit
/-- A quote with one step: its numbers, and from which number on how much is taken off. -/
structure Qu where
  ar : Int
  bo : Int
  wa : Int
  tl : Int
  se : Int
  ru : Int
  wo : Int
  pl : Int
  fr : Int
  ma : Int
  sf : Int
  so : Int
structure QuIn (q : Qu) : Prop where
  ar : 1 ≤ q.ar ∧ q.ar ≤ 100000
  bo : 0 ≤ q.bo ∧ q.bo ≤ 100000
  wa : 0 ≤ q.wa ∧ q.wa ≤ 500
  tl : 0 ≤ q.tl ∧ q.tl ≤ 1000000
  se : 0 ≤ q.se ∧ q.se ≤ 1000000
  ru : 1 ≤ q.ru ∧ q.ru ≤ 100000
  wo : 0 ≤ q.wo ∧ q.wo ≤ 1000000
  pl : 1 ≤ q.pl ∧ q.pl ≤ 100000
  fr : 0 ≤ q.fr ∧ q.fr ≤ 1000000
  ma : 0 ≤ q.ma ∧ q.ma ≤ 1000
  sf : 1 ≤ q.sf ∧ q.sf ≤ 100000
  so : 0 ≤ q.so ∧ q.so ≤ 900
/-- The step lies there. -/
def StepR (W : World) (b o : Nat) (q : Qu) : Prop := b < W.heap.size ∧ W.cell? ⟨b, o, none⟩ = some (.int .i64 q.sf) ∧ W.cell? ⟨b, o + 1, none⟩ = some (.int .i64 q.so)
theorem StepR.below {W W' : World} {b o : Nat} {q : Qu} (h : StepR W b o q) (hb : Below W.heap.size W W') : StepR W' b o q :=
  ⟨Nat.lt_of_lt_of_le h.1 hb.size, (hb.cell (p := ⟨b, o, none⟩) h.1).trans h.2.1, (hb.cell (p := ⟨b, o + 1, none⟩) h.1).trans h.2.2⟩
def upQ (n d : Int) : Int := (n + d - 1) / d
def b1Q (q : Qu) (n : Int) : Int := n * q.ar
def b2Q (q : Qu) (n : Int) : Int := b1Q q n * (1000 + q.wa)
def b3Q (q : Qu) (n : Int) : Int := b2Q q n * q.bo
/-- The parts of what boxes cost, all together, what is taken off, and the price. -/
def boardQ (q : Qu) (n : Int) : Int := upQ (b3Q q n) 10000000000
def setQ (q : Qu) (n : Int) : Int := q.se * upQ n q.ru
def workQ (q : Qu) (n : Int) : Int := upQ (q.wo * n) 1000
def frQ (q : Qu) (n : Int) : Int := q.fr * upQ n q.pl
def costQ (q : Qu) (n : Int) : Int := boardQ q n + q.tl + setQ q n + workQ q n + frQ q n
def offQ (q : Qu) (n : Int) : Int := if q.sf ≤ n then q.so else 0
def p1Q (q : Qu) (n : Int) : Int := costQ q n * (1000 + q.ma)
def p2Q (q : Qu) (n : Int) : Int := p1Q q n * (1000 - offQ q n)
def priceQ (q : Qu) (n : Int) : Int := upQ (p2Q q n) 1000000
theorem pr_mul {a b A B : Int} (h1 : 0 ≤ a ∧ a ≤ A) (h2 : 0 ≤ b ∧ b ≤ B) : 0 ≤ a * b ∧ a * b ≤ A * B :=
  ⟨Int.mul_nonneg h1.1 h2.1, Int.mul_le_mul h1.2 h2.2 h2.1 (by omega)⟩
theorem upQ_bd {n d N : Int} (hn : 0 ≤ n ∧ n ≤ N) (hd : 1 ≤ d) : 0 ≤ upQ n d ∧ upQ n d ≤ N + 1 := by
  unfold upQ
  refine ⟨Int.ediv_nonneg (by omega) (by omega), ?_⟩
  have h1 : (n + d - 1) / d ≤ (n * d + d - 1) / d := Int.ediv_le_ediv (by omega) (by
    have : n * 1 ≤ n * d := Int.mul_le_mul_of_nonneg_left hd hn.1
    omega)
  have h2 : (n * d + d - 1) / d ≤ n := by
    have : (n * d + d - 1) / d < n + 1 := Int.ediv_lt_of_lt_mul (by omega) (by rw [Int.add_mul]; omega)
    omega
  omega
structure QuNo (q : Qu) (n : Int) : Prop where
  b1 : 0 ≤ b1Q q n ∧ b1Q q n ≤ 10000000000
  b2 : 0 ≤ b2Q q n ∧ b2Q q n ≤ 15000000000000
  b3 : 0 ≤ b3Q q n ∧ b3Q q n ≤ 1500000000000000000
  bd : 0 ≤ boardQ q n ∧ boardQ q n ≤ 151000001
  ur : 0 ≤ upQ n q.ru ∧ upQ n q.ru ≤ 100001
  st : 0 ≤ setQ q n ∧ setQ q n ≤ 100001000000
  wn : 0 ≤ q.wo * n ∧ q.wo * n ≤ 100000000000
  wk : 0 ≤ workQ q n ∧ workQ q n ≤ 100000001
  up : 0 ≤ upQ n q.pl ∧ upQ n q.pl ≤ 100001
  fr : 0 ≤ frQ q n ∧ frQ q n ≤ 100001000000
  co : 0 ≤ costQ q n ∧ costQ q n ≤ 300000000000
  of : 0 ≤ offQ q n ∧ offQ q n ≤ 900
  p1 : 0 ≤ p1Q q n ∧ p1Q q n ≤ 600000000000000
  p2 : 0 ≤ p2Q q n ∧ p2Q q n ≤ 600000000000000000
  pr : 0 ≤ priceQ q n ∧ priceQ q n ≤ 600000000001
theorem quNo {q : Qu} (h : QuIn q) {n : Int} (hn : 1 ≤ n ∧ n ≤ 100000) : QuNo q n := by
  obtain ⟨h1, h2, h3, h4, h5, h6, h7, h8, h9, h10, h11, h12⟩ := h
  have b1 : 0 ≤ b1Q q n ∧ b1Q q n ≤ 10000000000 := pr_mul (A := 100000) (B := 100000) (by omega) (by omega)
  have b2 : 0 ≤ b2Q q n ∧ b2Q q n ≤ 15000000000000 := pr_mul (A := 10000000000) (B := 1500) b1 (by omega)
  have b3 : 0 ≤ b3Q q n ∧ b3Q q n ≤ 1500000000000000000 := pr_mul (A := 15000000000000) (B := 100000) b2 h2
  have bd : 0 ≤ boardQ q n ∧ boardQ q n ≤ 151000001 := by unfold boardQ upQ; omega
  have ur := upQ_bd (n := n) (N := 100000) (by omega) h6.1
  have st : 0 ≤ setQ q n ∧ setQ q n ≤ 100001000000 := pr_mul (A := 1000000) (B := 100001) h5 ur
  have wn : 0 ≤ q.wo * n ∧ q.wo * n ≤ 100000000000 := pr_mul (A := 1000000) (B := 100000) h7 (by omega)
  have wk : 0 ≤ workQ q n ∧ workQ q n ≤ 100000001 := by unfold workQ upQ; omega
  have up := upQ_bd (n := n) (N := 100000) (by omega) h8.1
  have fr : 0 ≤ frQ q n ∧ frQ q n ≤ 100001000000 := pr_mul (A := 1000000) (B := 100001) h9 up
  have co : 0 ≤ costQ q n ∧ costQ q n ≤ 300000000000 := by unfold costQ; omega
  have of : 0 ≤ offQ q n ∧ offQ q n ≤ 900 := by unfold offQ; split <;> omega
  have p1 : 0 ≤ p1Q q n ∧ p1Q q n ≤ 600000000000000 := pr_mul (A := 300000000000) (B := 2000) co (by omega)
  have p2 : 0 ≤ p2Q q n ∧ p2Q q n ≤ 600000000000000000 := pr_mul (A := 600000000000000) (B := 1000) p1 (by omega)
  exact ⟨b1, b2, b3, bd, ur, st, wn, wk, up, fr, co, of, p1, p2, by unfold priceQ upQ; omega⟩
theorem within_yes {lo hi : Int} {xs : List Int} (h : ∀ x ∈ xs, lo ≤ x ∧ x ≤ hi) : within lo hi xs = true := by
  unfold within
  simp only [Bool.not_eq_true', List.any_eq_false]
  intro x hx
  have := h x hx
  simp; omega
set_option maxHeartbeats 400000 in
theorem pr_within1_any (n lo hi : Int) (a b : Addr) (w : World) (ha : w.cell? a = some (.int .i64 lo)) (hb : w.cell? b = some (.int .i64 hi)) :
    Calls Try.prog 75 #[.int .i64 n, .pointer (some a), .pointer (some b)] w fun e w' => e = .returned (.bool (decide (n < lo) || decide (hi < n))) ∧ Below w.heap.size w w' := by
  by_cases h : n < lo
  · go_enter Try.func75, Try.ntmps75
    go_wp2
    go_ret
    exact ⟨by simp [h], Below.refl _ _⟩
  · go_enter Try.func75, Try.ntmps75
    go_wp2
    go_ret
    exact ⟨by simp; omega, Below.refl _ _⟩
theorem pr_pred_within (lo hi : Int) (a b : Addr) (xs : List Int) (w : World) (ha : w.cell? a = some (.int .i64 lo)) (hb : w.cell? b = some (.int .i64 hi)) (la : a.block < w.heap.size) (lb : b.block < w.heap.size) :
    Pred 75 #[.pointer (some a), .pointer (some b)] (Value.int .i64) (fun n => decide (n < lo) || decide (hi < n)) xs w :=
  fun x _ w1 h1 => pr_within1_any x lo hi a b w1 ((h1.cell la).trans ha) ((h1.cell lb).trans hb)
set_option maxHeartbeats 400000 in
theorem pr_within_any (lo hi : Int) (a : Option Addr) (n c : Nat) (xs : List Int) (w : World) (h : Ii w a n c xs) :
    Calls Try.prog 49 #[.int .i64 lo, .int .i64 hi, .slice a n c] w fun e w' => e = .returned (.bool (within lo hi xs)) ∧ Below w.heap.size w w' := by
  have H := Lib.hid h
  clear h
  have hb2 : Below w.heap.size w ((w.alloc (.cells #[.int .i64 lo] 3)).alloc (.cells #[.int .i64 hi] 3)) := ((Below.refl _ _).alloc (Nat.le_refl _) _).alloc (by simp) _
  have C := Lib.hid (containsFunc_ints 75 Try.call75 _ (fun n => decide (n < lo) || decide (hi < n)) a n c xs _ (H.out.below hb2 (Nat.le_refl _))
    (pr_pred_within lo hi ⟨w.heap.size, 0, none⟩ ⟨w.heap.size + 1, 0, none⟩ xs _ (by simp) (by simp) (by simp; omega) (by simp)))
  have Hb := Lib.hid hb2
  clear hb2
  go_enter Try.func49, Try.ntmps49
  go_wp2_with ((with_reducible refine (C.out).mono ?_); rintro e w2 ⟨rfl, hb2⟩)
  go_ret
  exact ⟨rfl, Hb.out.trans (hb2.mono (by simp; omega))⟩
set_option maxRecDepth 100000 in
set_option maxHeartbeats 400000 in
theorem isCount_yes (a : Option Addr) (n c : Nat) (xs : List Int) (w : World) (h : Ii w a n c xs) (hx : ∀ x ∈ xs, 1 ≤ x ∧ x ≤ 100000) :
  Calls Try.prog 44 #[.slice (a) (n) (c)] w (fun e w' => e = .returned (.bool true) ∧ Below w.heap.size w w') := by
 refine calls_fr Try.func44 Try.ntmps44 rfl rfl fun g hg => ?_
 have k0 : g 0 = .slice (a) (n) (c) := hg 0
 clear hg
 have fB0 : Below w.heap.size w w := Below.refl _ _
 refine wp_seq_k fun K1 hK1 => ?_
 refine region_dk 1 [(2, 0)] [[]] (rel [is (.bool false)])
  ⟨is_k, trivial⟩
  ⟨fun f s W d i j k l b => opv rfl rfl (by simp [go_sem]) rfl, trivial⟩ ?_
 intro f1 s1 W1 hB1 g1 hg1
 have fB1 := hB1.f fB0
 have z1 := hB1.below.size
 refine hK1 _ _ ?_
 have k1_0 := kt hg1 0 k0
 have k1_2 := kt hg1 2 (hB1.is 0)
 refine wp_seq_k fun K2 hK2 => ?_
 refine region_dk 3 [(3, 0), (4, 1), (2, 2)] [[], [0], [0, 1]] (rel [is (.slice (a) (n) (c)),
   is (.bool true),
   is (.bool true)])
  ⟨is_k, is_k, is_k, trivial⟩
  ⟨fun f s W d i j k l b => opv rfl rfl (by simp [go_sem, b.e 0 k1_0]) rfl,
  fun f s W d i j k l b => by have m := below_trans fB1 d; exact opDo_call rfl rfl (by simp [go_sem, b.e 3 (i 0 rfl)]) (pr_within_any 1 100000 a n c xs W (h.below m (Nat.le_refl _))) ((fun e W' h => by have h1 := h.1; rw [within_yes hx] at h1; exact ⟨_, h1, h.2, rfl⟩)),
  fun f s W d i j k l b => opv rfl rfl (by simp [go_sem, b.e 4 (i 1 rfl)]) rfl, trivial⟩ ?_
 intro f2 s2 W2 hB2 g2 hg2
 have fB2 := hB2.f fB1
 have z2 := hB2.below.size
 refine hK2 _ _ ?_
 have k2_2 := kt hg2 2 (hB2.is 2)
 refine wp_ret ?_
 refine leave_one (N := 5) (v := .bool true) (.inr rfl) Try.results44 rfl k2_2 ?_
 exact ⟨rfl, fB2⟩
set_option maxRecDepth 100000 in
set_option maxHeartbeats 400000 in
theorem open1_no (x y : Int) (w : World) (gx : 1 ≤ x ∧ x ≤ 100000) (gy : 0 ≤ y ∧ y ≤ 900) :
  Calls Try.prog 48 #[.agg #[.int .i64 x, .int .i64 y]] w (fun e w' => e = .returned (.bool false) ∧ Below w.heap.size w w') := by
 refine calls_fr Try.func48 Try.ntmps48 rfl rfl fun g hg => ?_
 have k0 : g 0 = .agg #[.int .i64 x, .int .i64 y] := hg 0
 clear hg
 have fB0 : Below w.heap.size w w := Below.refl _ _
 refine wp_seq_k fun K1 hK1 => ?_
 refine region_dk 2 [(1, 0), (2, 1)] [[], []] (rel [bx 0 #[.int .i64 x, .int .i64 y] 82,
   is (.bool false)])
  ⟨bx_k, is_k, trivial⟩
  ⟨fun f s W i j k l m a => opb rfl rfl (by simp [go_sem, a.e 0 k0]),
  fun f s W i j k l m a => opv rfl rfl (by simp [go_sem]) rfl, trivial⟩ ?_
 intro f1 s1 W1 hB1 g1 hg1
 have fB1 := hB1.f fB0
 have z1 := hB1.below.size
 obtain ⟨r1_0, br1_0⟩ := hB1.is 0
 have lr1_0 := hB1.lr 0 br1_0
 refine hK1 _ _ ?_
 have k1_1 := kt hg1 1 r1_0
 have k1_2 := kt hg1 2 (hB1.is 1)
 refine wp_seq_k fun K2 hK2 => ?_
 refine region_dk 13 [(3, 0), (4, 1), (5, 2), (6, 3), (7, 4), (8, 5), (9, 6), (10, 7), (11, 8), (12, 9), (13, 10), (14, 11), (2, 12)] [[], [0], [0, 1], [0, 1, 2], [0, 1, 2, 3], [0, 1, 2, 3, 4], [0, 1, 2, 3, 4, 5], [0, 1, 2, 3, 4, 5, 6], [0, 1, 2, 3, 4, 5, 6, 7], [0, 1, 2, 3, 4, 5, 6, 7, 8], [0, 1, 2, 3, 4, 5, 6, 7, 8, 9], [0, 1, 2, 3, 4, 5, 6, 7, 8, 9, 10], [0, 1, 2, 3, 4, 5, 6, 7, 8, 9, 10, 11]] (rel [is (.pointer (some ⟨(s1 0), 0, none⟩)),
   is (.int .i64 x),
   row 2 1 #[.int .i64 x] 3,
   is (.bool true),
   is (.bool false),
   is (.bool false),
   is (.pointer (some ⟨(s1 0), 1, none⟩)),
   is (.int .i64 y),
   row 8 1 #[.int .i64 y] 3,
   is (.bool true),
   is (.bool false),
   is (.bool false),
   is (.bool false)])
  ⟨is_k, is_k, row_k, is_k, is_k, is_k, is_k, is_k, row_k, is_k, is_k, is_k, is_k, trivial⟩
  ⟨fun f s W i j k l m a => opv rfl rfl (by simp [go_sem, a.e 1 k1_1]) rfl,
  fun f s W i j k l m a => opv rfl rfl (by simp [go_sem, a.e 3 (j 0 rfl), cb br1_0 i 0]) rfl,
  fun f s W i j k l m a => opr rfl rfl (by simp [go_sem, a.e 4 (j 1 rfl)]),
  fun f s W i j k l m a => opc (args := #[.slice (some ⟨(s 2), 0, none⟩) (1) (1)]) rfl rfl (by simp [go_sem, a.e 5 (j 2 rfl).1]) (isCount_yes _ 1 1 [x] W (ii_block (xs := [x]) (j 2 rfl).2 rfl rfl) (by simp; omega)),
  fun f s W i j k l m a => opv rfl rfl (by simp [go_sem, a.e 6 (j 3 rfl)]) rfl,
  fun f s W i j k l m a => opv rfl rfl (by simp [go_sem, a.e 7 (j 4 rfl)]) rfl,
  fun f s W i j k l m a => osure rfl rfl (a.says (d := 8) rfl rfl (j 5 rfl)) (gv (by simp [go_sem, a.e 1 k1_1]) rfl),
  fun f s W i j k l m a => osure rfl rfl (a.says (d := 8) rfl rfl (j 5 rfl)) (gv (by simp [go_sem, a.e 9 (j 6 rfl), cb br1_0 i 1]) rfl),
  fun f s W i j k l m a => osure rfl rfl (a.says (d := 8) rfl rfl (j 5 rfl)) (gr (by simp [go_sem, a.e 10 (j 7 rfl)])),
  fun f s W i j k l m a => osure rfl rfl (a.says (d := 8) rfl rfl (j 5 rfl)) (wp_called (args := #[.int .i64 0, .int .i64 900, .slice (some ⟨(s 8), 0, none⟩) (1) (1)]) (by simp [go_sem, a.e 11 (j 8 rfl).1]) (pr_within_any (0) (900) _ 1 1 [y] W (ii_block (xs := [y]) (j 8 rfl).2 rfl rfl)) ((fun e W' h => by have h1 := h.1; rw [within_yes (by simp; omega)] at h1; exact ⟨_, h1, h.2, rfl⟩))),
  fun f s W i j k l m a => osure rfl rfl (a.says (d := 8) rfl rfl (j 5 rfl)) (gv (by simp [go_sem, a.e 12 (j 9 rfl)]) rfl),
  fun f s W i j k l m a => opk (c := false) rfl rfl (fun _ => by simp [go_sem, a.e 8 (j 5 rfl), a.e 13 (j 10 rfl)]) (fun h => absurd h (by decide)),
  fun f s W i j k l m a => opv rfl rfl (by simp [go_sem, a.e 14 (j 11 rfl)]) rfl, trivial⟩ ?_
 intro f2 s2 W2 hB2 g2 hg2
 have fB2 := hB2.f fB1
 have z2 := hB2.below.size
 have b2_0 := hB2.b br1_0
 obtain ⟨r2_2, br2_2⟩ := hB2.is 2
 have lr2_2 := hB2.lr 2 br2_2
 obtain ⟨r2_8, br2_8⟩ := hB2.is 8
 have lr2_8 := hB2.lr 8 br2_8
 have ne2_2_8 := hB2.nb 2 8
 refine hK2 _ _ ?_
 have k2_2 := kt hg2 2 (hB2.is 12)
 refine wp_ret ?_
 refine leave_one (N := 15) (v := .bool false) (.inr rfl) Try.results48 rfl k2_2 ?_
 exact ⟨rfl, fB2⟩
set_option maxRecDepth 100000 in
set_option maxHeartbeats 400000 in
theorem index_no (q : Qu) (bs os cs : Nat) (w : World) (hR : StepR w bs os q) (gx : 1 ≤ q.sf ∧ q.sf ≤ 100000) (gy : 0 ≤ q.so ∧ q.so ≤ 900) :
  Calls Try.prog 76 #[.slice (some ⟨bs, os, none⟩) (1) (cs), .func (.func 48) #[] #[]] w (fun e w' => e = .returned (.int .i64 (-1)) ∧ Below w.heap.size w w') := by
 refine calls_fr Try.func76 Try.ntmps76 rfl rfl fun g hg => ?_
 have k0 : g 0 = .slice (some ⟨bs, os, none⟩) (1) (cs) := hg 0
 have k1 : g 1 = .func (.func 48) #[] #[] := hg 1
 clear hg
 have fB0 : Below w.heap.size w w := Below.refl _ _
 refine wp_seq_k fun K1 hK1 => ?_
 refine region_dk 1 [(4, 0)] [[]] (rel [is (.int .i64 0)])
  ⟨is_k, trivial⟩
  ⟨fun f s W b c d h i a => opv rfl rfl (by simp [go_sem]) rfl, trivial⟩ ?_
 intro f1 s1 W1 hB1 g1 hg1
 have fB1 := hB1.f fB0
 have z1 := hB1.below.size
 refine hK1 _ _ ?_
 have k1_0 := kt hg1 0 k0
 have k1_1 := kt hg1 1 k1
 have k1_4 := kt hg1 4 (hB1.is 0)
 refine wp_seq_k fun K2 hK2 => ?_
 refine wp_seq_k fun K3 hK3 => ?_
 refine region_dk 3 [(6, 0), (7, 1), (8, 2)] [[], [0], []] (rel [is (.slice (some ⟨bs, os, none⟩) (1) (cs)),
   is (.int .i64 1),
   is (.int .i64 0)])
  ⟨is_k, is_k, is_k, trivial⟩
  ⟨fun f s W b c d h i a => opv rfl rfl (by simp [go_sem, a.e 0 k1_0]) rfl,
  fun f s W b c d h i a => opv rfl rfl (by simp [go_sem, a.e 6 (c 0 rfl)]) rfl,
  fun f s W b c d h i a => opv rfl rfl (by simp [go_sem]) rfl, trivial⟩ ?_
 intro f2 s2 W2 hB2 g2 hg2
 have fB2 := hB2.f fB1
 have z2 := hB2.below.size
 refine hK3 _ _ ?_
 have k2_0 := kt hg2 0 k1_0
 have k2_1 := kt hg2 1 k1_1
 have k2_4 := kt hg2 4 k1_4
 have k2_7 := kt hg2 7 (hB2.is 1)
 have k2_8 := kt hg2 8 (hB2.is 2)
 refine wp_block ?_
 refine wp_loop_rounds 2 ?_
 rw [rounds_succ]
 refine wp_seq_k fun K4 hK4 => ?_
 refine region_dk 1 [(9, 0)] [[]] (rel [is (.bool true)])
  ⟨is_k, trivial⟩
  ⟨fun f s W b c d h i a => opv rfl rfl (by simp [go_sem, a.e 8 k2_8, a.e 7 k2_7]) rfl, trivial⟩ ?_
 intro f3 s3 W3 hB3 g3 hg3
 have fB3 := hB3.f fB2
 have z3 := hB3.below.size
 refine hK4 _ _ ?_
 have k3_0 := kt hg3 0 k2_0
 have k3_1 := kt hg3 1 k2_1
 have k3_4 := kt hg3 4 k2_4
 have k3_7 := kt hg3 7 k2_7
 have k3_8 := kt hg3 8 k2_8
 have k3_9 := kt hg3 9 (hB3.is 0)
 refine wp_seq_k fun K5 hK5 => ?_
 refine wp_cond_true ((fr_eval rfl).trans k3_9) ?_
 refine wp_skip ?_
 refine hK5 _ _ ?_
 refine wp_seq_k fun K7 hK7 => ?_
 refine wp_block ?_
 refine wp_seq_k fun K8 hK8 => ?_
 refine region_dk 2 [(10, 0), (5, 1)] [[], [0]] (rel [is (.int .i64 0),
   is (.int .i64 0)])
  ⟨is_k, is_k, trivial⟩
  ⟨fun f s W b c d h i a => opv rfl rfl (by simp [go_sem, a.e 8 k3_8]) rfl,
  fun f s W b c d h i a => opv rfl rfl (by simp [go_sem, a.e 10 (c 0 rfl)]) rfl, trivial⟩ ?_
 intro f4 s4 W4 hB4 g4 hg4
 have fB4 := hB4.f fB3
 have z4 := hB4.below.size
 refine hK8 _ _ ?_
 have k4_0 := kt hg4 0 k3_0
 have k4_1 := kt hg4 1 k3_1
 have k4_4 := kt hg4 4 k3_4
 have k4_7 := kt hg4 7 k3_7
 have k4_8 := kt hg4 8 k3_8
 have k4_9 := kt hg4 9 k3_9
 have k4_5 := kt hg4 5 (hB4.is 1)
 refine wp_seq_k fun K9 hK9 => ?_
 refine region_dk 6 [(11, 0), (12, 1), (13, 2), (14, 3), (15, 4), (16, 5)] [[], [], [], [1, 2], [1, 2, 3], [0, 1, 2, 3, 4]] (rel [is (.func (.func 48) #[] #[]),
   is (.slice (some ⟨bs, os, none⟩) (1) (cs)),
   is (.int .i64 0),
   is (.pointer (some ⟨bs, os, none⟩)),
   is (.agg #[.int .i64 q.sf, .int .i64 q.so]),
   is (.bool false)])
  ⟨is_k, is_k, is_k, is_k, is_k, is_k, trivial⟩
  ⟨fun f s W b c d h i a => opv rfl rfl (by simp [go_sem, a.e 1 k4_1]) rfl,
  fun f s W b c d h i a => opv rfl rfl (by simp [go_sem, a.e 0 k4_0]) rfl,
  fun f s W b c d h i a => opv rfl rfl (by simp [go_sem, a.e 5 k4_5]) rfl,
  fun f s W b c d h i a => opv rfl rfl (by simp [go_sem, a.e 12 (c 1 rfl), a.e 13 (c 2 rfl)]) rfl,
  fun f s W b c d h i a => by have j := below_trans fB4 b; have cu := (hR.below j).2; exact opv rfl rfl (by simp [go_sem, a.e 14 (c 3 rfl), cu.1, cu.2]) rfl,
  fun f s W b c d h i a => opc rfl rfl (by simp [go_sem, a.e 15 (c 4 rfl), a.e 11 (c 0 rfl)]) (open1_no q.sf q.so W gx gy), trivial⟩ ?_
 intro f5 s5 W5 hB5 g5 hg5
 have fB5 := hB5.f fB4
 have z5 := hB5.below.size
 refine hK9 _ _ ?_
 have k5_0 := kt hg5 0 k4_0
 have k5_1 := kt hg5 1 k4_1
 have k5_4 := kt hg5 4 k4_4
 have k5_7 := kt hg5 7 k4_7
 have k5_8 := kt hg5 8 k4_8
 have k5_9 := kt hg5 9 k4_9
 have k5_5 := kt hg5 5 k4_5
 have k5_16 := kt hg5 16 (hB5.is 5)
 refine wp_cond_false ((fr_eval rfl).trans k5_16) ?_
 refine wp_skip ?_
 refine inBlock_normal ?_
 refine hK7 _ _ ?_
 refine region_dk 2 [(18, 0), (8, 1)] [[], [0]] (rel [is (.int .i64 1),
   is (.int .i64 1)])
  ⟨is_k, is_k, trivial⟩
  ⟨fun f s W b c d h i a => opv rfl rfl (by simp [go_sem, a.e 8 ((h 1 8 rfl rfl).trans k5_8), IntWalk.i64_in (1) (by omega)]) rfl,
  fun f s W b c d h i a => opv rfl rfl (by simp [go_sem, a.e 18 (c 0 rfl)]) rfl, trivial⟩ ?_
 intro f6 s6 W6 hB6 g6 hg6
 have fB6 := hB6.f fB5
 have z6 := hB6.below.size
 refine wpOps_end ?_
 have k6_0 := kt hg6 0 k5_0
 have k6_1 := kt hg6 1 k5_1
 have k6_4 := kt hg6 4 k5_4
 have k6_7 := kt hg6 7 k5_7
 have k6_9 := kt hg6 9 k5_9
 have k6_5 := kt hg6 5 k5_5
 have k6_16 := kt hg6 16 k5_16
 have k6_8 := kt hg6 8 (hB6.is 1)
 refine then_normal ?_
 rw [rounds_succ]
 refine wp_seq_k fun K11 hK11 => ?_
 refine region_dk 1 [(9, 0)] [[]] (rel [is (.bool false)])
  ⟨is_k, trivial⟩
  ⟨fun f s W b c d h i a => opv rfl rfl (by simp [go_sem, a.e 8 k6_8, a.e 7 k6_7]) rfl, trivial⟩ ?_
 intro f7 s7 W7 hB7 g7 hg7
 have fB7 := hB7.f fB6
 have z7 := hB7.below.size
 refine hK11 _ _ ?_
 have k7_0 := kt hg7 0 k6_0
 have k7_1 := kt hg7 1 k6_1
 have k7_4 := kt hg7 4 k6_4
 have k7_7 := kt hg7 7 k6_7
 have k7_5 := kt hg7 5 k6_5
 have k7_16 := kt hg7 16 k6_16
 have k7_8 := kt hg7 8 k6_8
 have k7_9 := kt hg7 9 (hB7.is 0)
 refine wp_seq_k fun K12 hK12 => ?_
 refine wp_cond_false ((fr_eval rfl).trans k7_9) ?_
 refine wp_exit ?_
 refine then_exit ?_
 refine then_exit ?_
 refine inBlock_at ?_
 refine hK2 _ _ ?_
 refine wp_seq_k fun K14 hK14 => ?_
 refine region_dk 1 [(4, 0)] [[]] (rel [is (.int .i64 (-1))])
  ⟨is_k, trivial⟩
  ⟨fun f s W b c d h i a => opv rfl rfl (by simp [go_sem]) rfl, trivial⟩ ?_
 intro f8 s8 W8 hB8 g8 hg8
 have fB8 := hB8.f fB7
 have z8 := hB8.below.size
 refine hK14 _ _ ?_
 have k8_4 := kt hg8 4 (hB8.is 0)
 refine wp_ret ?_
 refine leave_one (N := 19) (v := .int .i64 (-1)) (.inr rfl) Try.results76 rfl k8_4 ?_
 exact ⟨rfl, fB8⟩
set_option maxRecDepth 100000 in
set_option maxHeartbeats 400000 in
theorem contains_no (q : Qu) (bs os cs : Nat) (w : World) (hR : StepR w bs os q) (gx : 1 ≤ q.sf ∧ q.sf ≤ 100000) (gy : 0 ≤ q.so ∧ q.so ≤ 900) :
  Calls Try.prog 52 #[.slice (some ⟨bs, os, none⟩) (1) (cs), .func (.func 48) #[] #[]] w (fun e w' => e = .returned (.bool false) ∧ Below w.heap.size w w') := by
 refine calls_fr Try.func52 Try.ntmps52 rfl rfl fun g hg => ?_
 have k0 : g 0 = .slice (some ⟨bs, os, none⟩) (1) (cs) := hg 0
 have k1 : g 1 = .func (.func 48) #[] #[] := hg 1
 clear hg
 have fB0 : Below w.heap.size w w := Below.refl _ _
 refine wp_seq_k fun K1 hK1 => ?_
 refine region_dk 1 [(4, 0)] [[]] (rel [is (.bool false)])
  ⟨is_k, trivial⟩
  ⟨fun f s W b c d h i a => opv rfl rfl (by simp [go_sem]) rfl, trivial⟩ ?_
 intro f1 s1 W1 hB1 g1 hg1
 have fB1 := hB1.f fB0
 have z1 := hB1.below.size
 refine hK1 _ _ ?_
 have k1_0 := kt hg1 0 k0
 have k1_1 := kt hg1 1 k1
 have k1_4 := kt hg1 4 (hB1.is 0)
 refine wp_seq_k fun K2 hK2 => ?_
 refine region_dk 5 [(5, 0), (6, 1), (7, 2), (8, 3), (4, 4)] [[], [], [0, 1], [0, 1, 2], [0, 1, 2, 3]] (rel [is (.slice (some ⟨bs, os, none⟩) (1) (cs)),
   is (.func (.func 48) #[] #[]),
   is (.int .i64 (-1)),
   is (.bool false),
   is (.bool false)])
  ⟨is_k, is_k, is_k, is_k, is_k, trivial⟩
  ⟨fun f s W b c d h i a => opv rfl rfl (by simp [go_sem, a.e 0 k1_0]) rfl,
  fun f s W b c d h i a => opv rfl rfl (by simp [go_sem, a.e 1 k1_1]) rfl,
  fun f s W b c d h i a => by have j := below_trans fB1 b; exact opc rfl rfl (by simp [go_sem, a.e 5 (c 0 rfl), a.e 6 (c 1 rfl)]) (index_no q bs os cs W (hR.below j) gx gy),
  fun f s W b c d h i a => opv rfl rfl (by simp [go_sem, a.e 7 (c 2 rfl)]) rfl,
  fun f s W b c d h i a => opv rfl rfl (by simp [go_sem, a.e 8 (c 3 rfl)]) rfl, trivial⟩ ?_
 intro f2 s2 W2 hB2 g2 hg2
 have fB2 := hB2.f fB1
 have z2 := hB2.below.size
 refine hK2 _ _ ?_
 have k2_4 := kt hg2 4 (hB2.is 4)
 refine wp_ret ?_
 refine leave_one (N := 9) (v := .bool false) (.inr rfl) Try.results52 rfl k2_4 ?_
 exact ⟨rfl, fB2⟩
set_option maxRecDepth 100000 in
set_option maxHeartbeats 400000 in
theorem sorted_yes (q : Qu) (bs os cs : Nat) (w : World) :
  Calls Try.prog 50 #[.slice (some ⟨bs, os, none⟩) (1) (cs), .func (.func 51) #[] #[]] w (fun e w' => e = .returned (.bool true) ∧ Below w.heap.size w w') := by
 refine calls_fr Try.func50 Try.ntmps50 rfl rfl fun g hg => ?_
 have k0 : g 0 = .slice (some ⟨bs, os, none⟩) (1) (cs) := hg 0
 have k1 : g 1 = .func (.func 51) #[] #[] := hg 1
 clear hg
 have fB0 : Below w.heap.size w w := Below.refl _ _
 refine wp_seq_k fun K1 hK1 => ?_
 refine region_dk 1 [(4, 0)] [[]] (rel [is (.bool false)])
  ⟨is_k, trivial⟩
  ⟨fun f s W b c d h i a => opv rfl rfl (by simp [go_sem]) rfl, trivial⟩ ?_
 intro f1 s1 W1 hB1 g1 hg1
 have fB1 := hB1.f fB0
 have z1 := hB1.below.size
 refine hK1 _ _ ?_
 have k1_0 := kt hg1 0 k0
 have k1_1 := kt hg1 1 k1
 have k1_4 := kt hg1 4 (hB1.is 0)
 refine wp_seq_k fun K2 hK2 => ?_
 refine wp_seq_k fun K3 hK3 => ?_
 refine region_dk 4 [(6, 0), (7, 1), (8, 2), (5, 3)] [[], [0], [0, 1], [0, 1, 2]] (rel [is (.slice (some ⟨bs, os, none⟩) (1) (cs)),
   is (.int .i64 1),
   is (.int .i64 0),
   is (.int .i64 0)])
  ⟨is_k, is_k, is_k, is_k, trivial⟩
  ⟨fun f s W b c d h i a => opv rfl rfl (by simp [go_sem, a.e 0 k1_0]) rfl,
  fun f s W b c d h i a => opv rfl rfl (by simp [go_sem, a.e 6 (c 0 rfl)]) rfl,
  fun f s W b c d h i a => opv rfl rfl (by simp [go_sem, a.e 7 (c 1 rfl), IntWalk.i64_in (0) (by omega)]) rfl,
  fun f s W b c d h i a => opv rfl rfl (by simp [go_sem, a.e 8 (c 2 rfl)]) rfl, trivial⟩ ?_
 intro f2 s2 W2 hB2 g2 hg2
 have fB2 := hB2.f fB1
 have z2 := hB2.below.size
 refine hK3 _ _ ?_
 have k2_0 := kt hg2 0 k1_0
 have k2_1 := kt hg2 1 k1_1
 have k2_4 := kt hg2 4 k1_4
 have k2_5 := kt hg2 5 (hB2.is 3)
 refine wp_block ?_
 refine wp_loop_rounds 1 ?_
 rw [rounds_succ]
 refine wp_seq_k fun K4 hK4 => ?_
 refine wp_seq_k fun K5 hK5 => ?_
 refine region_dk 2 [(9, 0), (10, 1)] [[], [0]] (rel [is (.int .i64 0),
   is (.bool false)])
  ⟨is_k, is_k, trivial⟩
  ⟨fun f s W b c d h i a => opv rfl rfl (by simp [go_sem, a.e 5 k2_5]) rfl,
  fun f s W b c d h i a => opv rfl rfl (by simp [go_sem, a.e 9 (c 0 rfl)]) rfl, trivial⟩ ?_
 intro f3 s3 W3 hB3 g3 hg3
 have fB3 := hB3.f fB2
 have z3 := hB3.below.size
 refine hK5 _ _ ?_
 have k3_0 := kt hg3 0 k2_0
 have k3_1 := kt hg3 1 k2_1
 have k3_4 := kt hg3 4 k2_4
 have k3_5 := kt hg3 5 k2_5
 have k3_10 := kt hg3 10 (hB3.is 1)
 refine wp_cond_false ((fr_eval rfl).trans k3_10) ?_
 refine wp_exit ?_
 refine then_exit ?_
 refine then_exit ?_
 refine inBlock_at ?_
 refine hK2 _ _ ?_
 refine wp_seq_k fun K7 hK7 => ?_
 refine region_dk 1 [(4, 0)] [[]] (rel [is (.bool true)])
  ⟨is_k, trivial⟩
  ⟨fun f s W b c d h i a => opv rfl rfl (by simp [go_sem]) rfl, trivial⟩ ?_
 intro f4 s4 W4 hB4 g4 hg4
 have fB4 := hB4.f fB3
 have z4 := hB4.below.size
 refine hK7 _ _ ?_
 have k4_4 := kt hg4 4 (hB4.is 0)
 refine wp_ret ?_
 refine leave_one (N := 25) (v := .bool true) (.inr rfl) Try.results50 rfl k4_4 ?_
 exact ⟨rfl, fB4⟩
set_option maxRecDepth 100000 in
set_option maxHeartbeats 8000000 in
theorem open_ok (q : Qu) (bs os cs : Nat) (w : World) (hR : StepR w bs os q) (hq : QuIn q) :
  Calls Try.prog 29 #[.agg #[.int .i64 q.ar, .int .i64 q.bo, .int .i64 q.wa, .int .i64 q.tl, .int .i64 q.se, .int .i64 q.ru, .int .i64 q.wo, .int .i64 q.pl, .int .i64 q.fr, .int .i64 q.ma, .slice (some ⟨bs, os, none⟩) (1) (cs)]] w (fun e w' => e = .returned (.tuple #[.agg #[.int .i64 q.ar, .int .i64 q.bo, .int .i64 q.wa, .int .i64 q.tl, .int .i64 q.se, .int .i64 q.ru, .int .i64 q.wo, .int .i64 q.pl, .int .i64 q.fr, .int .i64 q.ma, .slice (some ⟨bs, os, none⟩) (1) (cs)], .int .i64 0]) ∧ Below w.heap.size w w') := by
 have gq_1 := hq.ar
 have gq_2 := hq.bo
 have gq_3 := hq.wa
 have gq_4 := hq.tl
 have gq_5 := hq.se
 have gq_6 := hq.ru
 have gq_7 := hq.wo
 have gq_8 := hq.pl
 have gq_9 := hq.fr
 have gq_10 := hq.ma
 refine calls_fr Try.func29 Try.ntmps29 rfl rfl fun g hg => ?_
 have k0 : g 0 = .agg #[.int .i64 q.ar, .int .i64 q.bo, .int .i64 q.wa, .int .i64 q.tl, .int .i64 q.se, .int .i64 q.ru, .int .i64 q.wo, .int .i64 q.pl, .int .i64 q.fr, .int .i64 q.ma, .slice (some ⟨bs, os, none⟩) (1) (cs)] := hg 0
 clear hg
 have fB0 : Below w.heap.size w w := Below.refl _ _
 refine wp_seq_k fun K1 hK1 => ?_
 refine region_dk 3 [(1, 0), (2, 1), (3, 2)] [[], [], []] (rel [bx 0 #[.int .i64 q.ar, .int .i64 q.bo, .int .i64 q.wa, .int .i64 q.tl, .int .i64 q.se, .int .i64 q.ru, .int .i64 q.wo, .int .i64 q.pl, .int .i64 q.fr, .int .i64 q.ma, .slice (some ⟨bs, os, none⟩) (1) (cs)] 32,
   bx 1 #[.int .i64 0, .int .i64 0, .int .i64 0, .int .i64 0, .int .i64 0, .int .i64 0, .int .i64 0, .int .i64 0, .int .i64 0, .int .i64 0, .slice (none) (0) (0)] 86,
   is (.int .i64 0)])
  ⟨bx_k, bx_k, is_k, trivial⟩
  ⟨fun f s W c d i j k a => opb rfl rfl (by simp [go_sem, a.e 0 k0]),
  fun f s W c d i j k a => opb rfl rfl (by simp [go_sem]),
  fun f s W c d i j k a => opv rfl rfl (by simp [go_sem]) rfl, trivial⟩ ?_
 intro f1 s1 W1 hB1 g1 hg1
 have fB1 := hB1.f fB0
 have z1 := hB1.below.size
 obtain ⟨r1_0, br1_0⟩ := hB1.is 0
 have lr1_0 := hB1.lr 0 br1_0
 obtain ⟨r1_1, br1_1⟩ := hB1.is 1
 have lr1_1 := hB1.lr 1 br1_1
 have ne1_0_1 := hB1.nb 0 1
 refine hK1 _ _ ?_
 have k1_1 := kt hg1 1 r1_0
 have k1_2 := kt hg1 2 r1_1
 have k1_3 := kt hg1 3 (hB1.is 2)
 refine wp_seq_k fun K2 hK2 => ?_
 refine region_dk 1 [(4, 0)] [[]] (rel [is (.func (.func 48) #[] #[])])
  ⟨is_k, trivial⟩
  ⟨fun f s W c d i j k a => opv rfl rfl (by simp [go_sem]) rfl, trivial⟩ ?_
 intro f2 s2 W2 hB2 g2 hg2
 have fB2 := hB2.f fB1
 have z2 := hB2.below.size
 have b2_0 := hB2.b br1_0
 have b2_1 := hB2.b br1_1
 refine hK2 _ _ ?_
 have k2_1 := kt hg2 1 k1_1
 have k2_2 := kt hg2 2 k1_2
 have k2_3 := kt hg2 3 k1_3
 have k2_4 := kt hg2 4 (hB2.is 0)
 refine wp_seq_k fun K3 hK3 => ?_
 refine region_dk 4 [(6, 0), (7, 1), (8, 2), (5, 3)] [[], [0], [0, 1], [0, 1, 2]] (rel [is (.pointer (some ⟨(s1 0), 10, none⟩)),
   is (.slice (some ⟨bs, os, none⟩) (1) (cs)),
   is (.bool true),
   is (.bool true)])
  ⟨is_k, is_k, is_k, is_k, trivial⟩
  ⟨fun f s W c d i j k a => opv rfl rfl (by simp [go_sem, a.e 1 k2_1]) rfl,
  fun f s W c d i j k a => opv rfl rfl (by simp [go_sem, a.e 6 (d 0 rfl), cb b2_0 c 10]) rfl,
  fun f s W c d i j k a => opc rfl rfl (by simp [go_sem, a.e 7 (d 1 rfl)]) (sorted_yes q bs os cs W),
  fun f s W c d i j k a => opv rfl rfl (by simp [go_sem, a.e 8 (d 2 rfl)]) rfl, trivial⟩ ?_
 intro f3 s3 W3 hB3 g3 hg3
 have fB3 := hB3.f fB2
 have z3 := hB3.below.size
 have b3_0 := hB3.b b2_0
 have b3_1 := hB3.b b2_1
 refine hK3 _ _ ?_
 have k3_1 := kt hg3 1 k2_1
 have k3_2 := kt hg3 2 k2_2
 have k3_3 := kt hg3 3 k2_3
 have k3_4 := kt hg3 4 k2_4
 have k3_5 := kt hg3 5 (hB3.is 3)
 refine wp_seq_k fun K4 hK4 => ?_
 refine wp_block ?_
 refine wp_seq_k fun K5 hK5 => ?_
 refine region_dk 5 [(10, 0), (11, 1), (12, 2), (13, 3), (9, 4)] [[], [0], [0, 1], [0, 1, 2], [0, 1, 2, 3]] (rel [is (.pointer (some ⟨(s1 0), 10, none⟩)),
   is (.slice (some ⟨bs, os, none⟩) (1) (cs)),
   is (.int .i64 1),
   is (.bool false),
   is (.bool false)])
  ⟨is_k, is_k, is_k, is_k, is_k, trivial⟩
  ⟨fun f s W c d i j k a => opv rfl rfl (by simp [go_sem, a.e 1 k3_1]) rfl,
  fun f s W c d i j k a => opv rfl rfl (by simp [go_sem, a.e 10 (d 0 rfl), cb b3_0 c 10]) rfl,
  fun f s W c d i j k a => opv rfl rfl (by simp [go_sem, a.e 11 (d 1 rfl)]) rfl,
  fun f s W c d i j k a => opv rfl rfl (by simp [go_sem, a.e 12 (d 2 rfl)]) rfl,
  fun f s W c d i j k a => opv rfl rfl (by simp [go_sem, a.e 13 (d 3 rfl)]) rfl, trivial⟩ ?_
 intro f4 s4 W4 hB4 g4 hg4
 have fB4 := hB4.f fB3
 have z4 := hB4.below.size
 have b4_0 := hB4.b b3_0
 have b4_1 := hB4.b b3_1
 refine hK5 _ _ ?_
 have k4_1 := kt hg4 1 k3_1
 have k4_2 := kt hg4 2 k3_2
 have k4_3 := kt hg4 3 k3_3
 have k4_4 := kt hg4 4 k3_4
 have k4_5 := kt hg4 5 k3_5
 have k4_9 := kt hg4 9 (hB4.is 4)
 refine wp_cond_false ((fr_eval rfl).trans k4_9) ?_
 refine wp_seq_k fun K7 hK7 => ?_
 refine wp_seq_k fun K8 hK8 => ?_
 refine region_dk 5 [(16, 0), (17, 1), (18, 2), (19, 3), (15, 4)] [[], [0], [], [0, 1, 2], [0, 1, 2, 3]] (rel [is (.pointer (some ⟨(s1 0), 10, none⟩)),
   is (.slice (some ⟨bs, os, none⟩) (1) (cs)),
   is (.func (.func 48) #[] #[]),
   is (.bool false),
   is (.bool false)])
  ⟨is_k, is_k, is_k, is_k, is_k, trivial⟩
  ⟨fun f s W c d i j k a => opv rfl rfl (by simp [go_sem, a.e 1 k4_1]) rfl,
  fun f s W c d i j k a => opv rfl rfl (by simp [go_sem, a.e 16 (d 0 rfl), cb b4_0 c 10]) rfl,
  fun f s W c d i j k a => opv rfl rfl (by simp [go_sem, a.e 4 k4_4]) rfl,
  fun f s W c d i j k a => by have l := below_trans fB4 c; exact opc rfl rfl (by simp [go_sem, a.e 17 (d 1 rfl), a.e 18 (d 2 rfl)]) (contains_no q bs os cs W (hR.below l) hq.sf hq.so),
  fun f s W c d i j k a => opv rfl rfl (by simp [go_sem, a.e 19 (d 3 rfl)]) rfl, trivial⟩ ?_
 intro f5 s5 W5 hB5 g5 hg5
 have fB5 := hB5.f fB4
 have z5 := hB5.below.size
 have b5_0 := hB5.b b4_0
 have b5_1 := hB5.b b4_1
 refine hK8 _ _ ?_
 have k5_1 := kt hg5 1 k4_1
 have k5_2 := kt hg5 2 k4_2
 have k5_3 := kt hg5 3 k4_3
 have k5_5 := kt hg5 5 k4_5
 have k5_15 := kt hg5 15 (hB5.is 4)
 refine wp_cond_false ((fr_eval rfl).trans k5_15) ?_
 refine region_dk 3 [(20, 0), (21, 1), (15, 2)] [[], [0], [0, 1]] (rel [is (.bool true),
   is (.bool false),
   is (.bool false)])
  ⟨is_k, is_k, is_k, trivial⟩
  ⟨fun f s W c d i j k a => opv rfl rfl (by simp [go_sem, a.e 5 k5_5]) rfl,
  fun f s W c d i j k a => opv rfl rfl (by simp [go_sem, a.e 20 (d 0 rfl)]) rfl,
  fun f s W c d i j k a => opv rfl rfl (by simp [go_sem, a.e 21 (d 1 rfl)]) rfl, trivial⟩ ?_
 intro f6 s6 W6 hB6 g6 hg6
 have fB6 := hB6.f fB5
 have z6 := hB6.below.size
 have b6_0 := hB6.b b5_0
 have b6_1 := hB6.b b5_1
 refine hK7 _ _ ?_
 have k6_1 := kt hg6 1 k5_1
 have k6_2 := kt hg6 2 k5_2
 have k6_3 := kt hg6 3 k5_3
 have k6_15 := kt hg6 15 (hB6.is 2)
 refine wp_cond_false ((fr_eval rfl).trans k6_15) ?_
 refine wp_seq_k fun K11 hK11 => ?_
 refine wp_seq_k fun K12 hK12 => ?_
 refine region_dk 6 [(24, 0), (25, 1), (26, 2), (27, 3), (28, 4), (23, 5)] [[], [0], [0, 1], [0, 1, 2], [0, 1, 2, 3], [0, 1, 2, 3, 4]] (rel [is (.pointer (some ⟨(s1 0), 0, none⟩)),
   is (.int .i64 q.ar),
   row 2 1 #[.int .i64 q.ar] 3,
   is (.bool true),
   is (.bool false),
   is (.bool false)])
  ⟨is_k, is_k, row_k, is_k, is_k, is_k, trivial⟩
  ⟨fun f s W c d i j k a => opv rfl rfl (by simp [go_sem, a.e 1 k6_1]) rfl,
  fun f s W c d i j k a => opv rfl rfl (by simp [go_sem, a.e 24 (d 0 rfl), cb b6_0 c 0]) rfl,
  fun f s W c d i j k a => opr rfl rfl (by simp [go_sem, a.e 25 (d 1 rfl)]),
  fun f s W c d i j k a => opDo_call (args := #[.int .i64 1, .int .i64 100000, .slice (some ⟨(s 2), 0, none⟩) (1) (1)]) rfl rfl (by simp [go_sem, a.e 26 (d 2 rfl).1]) (pr_within_any (1) (100000) _ 1 1 [q.ar] W (ii_block (xs := [q.ar]) (d 2 rfl).2 rfl rfl)) ((fun e W' h => by have h1 := h.1; rw [within_yes (by simp; omega)] at h1; exact ⟨_, h1, h.2, rfl⟩)),
  fun f s W c d i j k a => opv rfl rfl (by simp [go_sem, a.e 27 (d 3 rfl)]) rfl,
  fun f s W c d i j k a => opv rfl rfl (by simp [go_sem, a.e 28 (d 4 rfl)]) rfl, trivial⟩ ?_
 intro f7 s7 W7 hB7 g7 hg7
 have fB7 := hB7.f fB6
 have z7 := hB7.below.size
 have b7_0 := hB7.b b6_0
 have b7_1 := hB7.b b6_1
 obtain ⟨r7_2, br7_2⟩ := hB7.is 2
 have lr7_2 := hB7.lr 2 br7_2
 refine hK12 _ _ ?_
 have k7_1 := kt hg7 1 k6_1
 have k7_2 := kt hg7 2 k6_2
 have k7_3 := kt hg7 3 k6_3
 have k7_23 := kt hg7 23 (hB7.is 5)
 refine wp_cond_false ((fr_eval rfl).trans k7_23) ?_
 refine wp_seq_k fun K14 hK14 => ?_
 refine region_dk 6 [(29, 0), (30, 1), (31, 2), (32, 3), (33, 4), (23, 5)] [[], [0], [0, 1], [0, 1, 2], [0, 1, 2, 3], [0, 1, 2, 3, 4]] (rel [is (.pointer (some ⟨(s1 0), 1, none⟩)),
   is (.int .i64 q.bo),
   row 2 1 #[.int .i64 q.bo] 3,
   is (.bool true),
   is (.bool false),
   is (.bool false)])
  ⟨is_k, is_k, row_k, is_k, is_k, is_k, trivial⟩
  ⟨fun f s W c d i j k a => opv rfl rfl (by simp [go_sem, a.e 1 k7_1]) rfl,
  fun f s W c d i j k a => opv rfl rfl (by simp [go_sem, a.e 29 (d 0 rfl), cb b7_0 c 1]) rfl,
  fun f s W c d i j k a => opr rfl rfl (by simp [go_sem, a.e 30 (d 1 rfl)]),
  fun f s W c d i j k a => opDo_call (args := #[.int .i64 0, .int .i64 100000, .slice (some ⟨(s 2), 0, none⟩) (1) (1)]) rfl rfl (by simp [go_sem, a.e 31 (d 2 rfl).1]) (pr_within_any (0) (100000) _ 1 1 [q.bo] W (ii_block (xs := [q.bo]) (d 2 rfl).2 rfl rfl)) ((fun e W' h => by have h1 := h.1; rw [within_yes (by simp; omega)] at h1; exact ⟨_, h1, h.2, rfl⟩)),
  fun f s W c d i j k a => opv rfl rfl (by simp [go_sem, a.e 32 (d 3 rfl)]) rfl,
  fun f s W c d i j k a => opv rfl rfl (by simp [go_sem, a.e 33 (d 4 rfl)]) rfl, trivial⟩ ?_
 intro f8 s8 W8 hB8 g8 hg8
 have fB8 := hB8.f fB7
 have z8 := hB8.below.size
 have b8_0 := hB8.b b7_0
 have b8_1 := hB8.b b7_1
 have b8_2 := hB8.b br7_2
 obtain ⟨r8_2, br8_2⟩ := hB8.is 2
 have lr8_2 := hB8.lr 2 br8_2
 refine hK14 _ _ ?_
 have k8_1 := kt hg8 1 k7_1
 have k8_2 := kt hg8 2 k7_2
 have k8_3 := kt hg8 3 k7_3
 have k8_23 := kt hg8 23 (hB8.is 5)
 refine wp_cond_false ((fr_eval rfl).trans k8_23) ?_
 refine region_dk 6 [(34, 0), (35, 1), (36, 2), (37, 3), (38, 4), (23, 5)] [[], [0], [0, 1], [0, 1, 2], [0, 1, 2, 3], [0, 1, 2, 3, 4]] (rel [is (.pointer (some ⟨(s1 0), 2, none⟩)),
   is (.int .i64 q.wa),
   row 2 1 #[.int .i64 q.wa] 3,
   is (.bool true),
   is (.bool false),
   is (.bool false)])
  ⟨is_k, is_k, row_k, is_k, is_k, is_k, trivial⟩
  ⟨fun f s W c d i j k a => opv rfl rfl (by simp [go_sem, a.e 1 k8_1]) rfl,
  fun f s W c d i j k a => opv rfl rfl (by simp [go_sem, a.e 34 (d 0 rfl), cb b8_0 c 2]) rfl,
  fun f s W c d i j k a => opr rfl rfl (by simp [go_sem, a.e 35 (d 1 rfl)]),
  fun f s W c d i j k a => opDo_call (args := #[.int .i64 0, .int .i64 500, .slice (some ⟨(s 2), 0, none⟩) (1) (1)]) rfl rfl (by simp [go_sem, a.e 36 (d 2 rfl).1]) (pr_within_any (0) (500) _ 1 1 [q.wa] W (ii_block (xs := [q.wa]) (d 2 rfl).2 rfl rfl)) ((fun e W' h => by have h1 := h.1; rw [within_yes (by simp; omega)] at h1; exact ⟨_, h1, h.2, rfl⟩)),
  fun f s W c d i j k a => opv rfl rfl (by simp [go_sem, a.e 37 (d 3 rfl)]) rfl,
  fun f s W c d i j k a => opv rfl rfl (by simp [go_sem, a.e 38 (d 4 rfl)]) rfl, trivial⟩ ?_
 intro f9 s9 W9 hB9 g9 hg9
 have fB9 := hB9.f fB8
 have z9 := hB9.below.size
 have b9_0 := hB9.b b8_0
 have b9_1 := hB9.b b8_1
 have b9_2 := hB9.b b8_2
 have b9_3 := hB9.b br8_2
 obtain ⟨r9_2, br9_2⟩ := hB9.is 2
 have lr9_2 := hB9.lr 2 br9_2
 refine hK11 _ _ ?_
 have k9_1 := kt hg9 1 k8_1
 have k9_2 := kt hg9 2 k8_2
 have k9_3 := kt hg9 3 k8_3
 have k9_23 := kt hg9 23 (hB9.is 5)
 refine wp_cond_false ((fr_eval rfl).trans k9_23) ?_
 refine wp_seq_k fun K17 hK17 => ?_
 refine wp_seq_k fun K18 hK18 => ?_
 refine region_dk 12 [(41, 0), (42, 1), (43, 2), (44, 3), (45, 4), (46, 5), (47, 6), (48, 7), (49, 8), (50, 9), (51, 10), (40, 11)] [[], [0], [], [2], [], [4], [], [6], [0, 1, 2, 3, 4, 5, 6, 7], [0, 1, 2, 3, 4, 5, 6, 7, 8], [0, 1, 2, 3, 4, 5, 6, 7, 8, 9], [0, 1, 2, 3, 4, 5, 6, 7, 8, 9, 10]] (rel [is (.pointer (some ⟨(s1 0), 3, none⟩)),
   is (.int .i64 q.tl),
   is (.pointer (some ⟨(s1 0), 4, none⟩)),
   is (.int .i64 q.se),
   is (.pointer (some ⟨(s1 0), 6, none⟩)),
   is (.int .i64 q.wo),
   is (.pointer (some ⟨(s1 0), 8, none⟩)),
   is (.int .i64 q.fr),
   row 8 4 #[.int .i64 q.tl, .int .i64 q.se, .int .i64 q.wo, .int .i64 q.fr] 3,
   is (.bool true),
   is (.bool false),
   is (.bool false)])
  ⟨is_k, is_k, is_k, is_k, is_k, is_k, is_k, is_k, row_k, is_k, is_k, is_k, trivial⟩
  ⟨fun f s W c d i j k a => opv rfl rfl (by simp [go_sem, a.e 1 k9_1]) rfl,
  fun f s W c d i j k a => opv rfl rfl (by simp [go_sem, a.e 41 (d 0 rfl), cb b9_0 c 3]) rfl,
  fun f s W c d i j k a => opv rfl rfl (by simp [go_sem, a.e 1 k9_1]) rfl,
  fun f s W c d i j k a => opv rfl rfl (by simp [go_sem, a.e 43 (d 2 rfl), cb b9_0 c 4]) rfl,
  fun f s W c d i j k a => opv rfl rfl (by simp [go_sem, a.e 1 k9_1]) rfl,
  fun f s W c d i j k a => opv rfl rfl (by simp [go_sem, a.e 45 (d 4 rfl), cb b9_0 c 6]) rfl,
  fun f s W c d i j k a => opv rfl rfl (by simp [go_sem, a.e 1 k9_1]) rfl,
  fun f s W c d i j k a => opv rfl rfl (by simp [go_sem, a.e 47 (d 6 rfl), cb b9_0 c 8]) rfl,
  fun f s W c d i j k a => opr rfl rfl (by simp [go_sem, a.e 42 (d 1 rfl), a.e 44 (d 3 rfl), a.e 46 (d 5 rfl), a.e 48 (d 7 rfl)]),
  fun f s W c d i j k a => opDo_call (args := #[.int .i64 0, .int .i64 1000000, .slice (some ⟨(s 8), 0, none⟩) (4) (4)]) rfl rfl (by simp [go_sem, a.e 49 (d 8 rfl).1]) (pr_within_any (0) (1000000) _ 4 4 [q.tl, q.se, q.wo, q.fr] W (ii_block (xs := [q.tl, q.se, q.wo, q.fr]) (d 8 rfl).2 rfl rfl)) ((fun e W' h => by have h1 := h.1; rw [within_yes (by simp; omega)] at h1; exact ⟨_, h1, h.2, rfl⟩)),
  fun f s W c d i j k a => opv rfl rfl (by simp [go_sem, a.e 50 (d 9 rfl)]) rfl,
  fun f s W c d i j k a => opv rfl rfl (by simp [go_sem, a.e 51 (d 10 rfl)]) rfl, trivial⟩ ?_
 intro f10 s10 W10 hB10 g10 hg10
 have fB10 := hB10.f fB9
 have z10 := hB10.below.size
 have b10_0 := hB10.b b9_0
 have b10_1 := hB10.b b9_1
 have b10_2 := hB10.b b9_2
 have b10_3 := hB10.b b9_3
 have b10_4 := hB10.b br9_2
 obtain ⟨r10_8, br10_8⟩ := hB10.is 8
 have lr10_8 := hB10.lr 8 br10_8
 refine hK18 _ _ ?_
 have k10_1 := kt hg10 1 k9_1
 have k10_2 := kt hg10 2 k9_2
 have k10_3 := kt hg10 3 k9_3
 have k10_40 := kt hg10 40 (hB10.is 11)
 refine wp_cond_false ((fr_eval rfl).trans k10_40) ?_
 refine wp_seq_k fun K20 hK20 => ?_
 refine region_dk 8 [(52, 0), (53, 1), (54, 2), (55, 3), (56, 4), (57, 5), (58, 6), (40, 7)] [[], [0], [], [2], [0, 1, 2, 3], [0, 1, 2, 3, 4], [0, 1, 2, 3, 4, 5], [0, 1, 2, 3, 4, 5, 6]] (rel [is (.pointer (some ⟨(s1 0), 5, none⟩)),
   is (.int .i64 q.ru),
   is (.pointer (some ⟨(s1 0), 7, none⟩)),
   is (.int .i64 q.pl),
   row 4 2 #[.int .i64 q.ru, .int .i64 q.pl] 3,
   is (.bool true),
   is (.bool false),
   is (.bool false)])
  ⟨is_k, is_k, is_k, is_k, row_k, is_k, is_k, is_k, trivial⟩
  ⟨fun f s W c d i j k a => opv rfl rfl (by simp [go_sem, a.e 1 k10_1]) rfl,
  fun f s W c d i j k a => opv rfl rfl (by simp [go_sem, a.e 52 (d 0 rfl), cb b10_0 c 5]) rfl,
  fun f s W c d i j k a => opv rfl rfl (by simp [go_sem, a.e 1 k10_1]) rfl,
  fun f s W c d i j k a => opv rfl rfl (by simp [go_sem, a.e 54 (d 2 rfl), cb b10_0 c 7]) rfl,
  fun f s W c d i j k a => opr rfl rfl (by simp [go_sem, a.e 53 (d 1 rfl), a.e 55 (d 3 rfl)]),
  fun f s W c d i j k a => opc (args := #[.slice (some ⟨(s 4), 0, none⟩) (2) (2)]) rfl rfl (by simp [go_sem, a.e 56 (d 4 rfl).1]) (isCount_yes _ 2 2 [q.ru, q.pl] W (ii_block (xs := [q.ru, q.pl]) (d 4 rfl).2 rfl rfl) (by simp; omega)),
  fun f s W c d i j k a => opv rfl rfl (by simp [go_sem, a.e 57 (d 5 rfl)]) rfl,
  fun f s W c d i j k a => opv rfl rfl (by simp [go_sem, a.e 58 (d 6 rfl)]) rfl, trivial⟩ ?_
 intro f11 s11 W11 hB11 g11 hg11
 have fB11 := hB11.f fB10
 have z11 := hB11.below.size
 have b11_0 := hB11.b b10_0
 have b11_1 := hB11.b b10_1
 have b11_2 := hB11.b b10_2
 have b11_3 := hB11.b b10_3
 have b11_4 := hB11.b b10_4
 have b11_5 := hB11.b br10_8
 obtain ⟨r11_4, br11_4⟩ := hB11.is 4
 have lr11_4 := hB11.lr 4 br11_4
 refine hK20 _ _ ?_
 have k11_1 := kt hg11 1 k10_1
 have k11_2 := kt hg11 2 k10_2
 have k11_3 := kt hg11 3 k10_3
 have k11_40 := kt hg11 40 (hB11.is 7)
 refine wp_cond_false ((fr_eval rfl).trans k11_40) ?_
 refine region_dk 6 [(59, 0), (60, 1), (61, 2), (62, 3), (63, 4), (40, 5)] [[], [0], [0, 1], [0, 1, 2], [0, 1, 2, 3], [0, 1, 2, 3, 4]] (rel [is (.pointer (some ⟨(s1 0), 9, none⟩)),
   is (.int .i64 q.ma),
   row 2 1 #[.int .i64 q.ma] 3,
   is (.bool true),
   is (.bool false),
   is (.bool false)])
  ⟨is_k, is_k, row_k, is_k, is_k, is_k, trivial⟩
  ⟨fun f s W c d i j k a => opv rfl rfl (by simp [go_sem, a.e 1 k11_1]) rfl,
  fun f s W c d i j k a => opv rfl rfl (by simp [go_sem, a.e 59 (d 0 rfl), cb b11_0 c 9]) rfl,
  fun f s W c d i j k a => opr rfl rfl (by simp [go_sem, a.e 60 (d 1 rfl)]),
  fun f s W c d i j k a => opDo_call (args := #[.int .i64 0, .int .i64 1000, .slice (some ⟨(s 2), 0, none⟩) (1) (1)]) rfl rfl (by simp [go_sem, a.e 61 (d 2 rfl).1]) (pr_within_any (0) (1000) _ 1 1 [q.ma] W (ii_block (xs := [q.ma]) (d 2 rfl).2 rfl rfl)) ((fun e W' h => by have h1 := h.1; rw [within_yes (by simp; omega)] at h1; exact ⟨_, h1, h.2, rfl⟩)),
  fun f s W c d i j k a => opv rfl rfl (by simp [go_sem, a.e 62 (d 3 rfl)]) rfl,
  fun f s W c d i j k a => opv rfl rfl (by simp [go_sem, a.e 63 (d 4 rfl)]) rfl, trivial⟩ ?_
 intro f12 s12 W12 hB12 g12 hg12
 have fB12 := hB12.f fB11
 have z12 := hB12.below.size
 have b12_0 := hB12.b b11_0
 have b12_1 := hB12.b b11_1
 have b12_2 := hB12.b b11_2
 have b12_3 := hB12.b b11_3
 have b12_4 := hB12.b b11_4
 have b12_5 := hB12.b b11_5
 have b12_6 := hB12.b br11_4
 obtain ⟨r12_2, br12_2⟩ := hB12.is 2
 have lr12_2 := hB12.lr 2 br12_2
 refine hK17 _ _ ?_
 have k12_1 := kt hg12 1 k11_1
 have k12_2 := kt hg12 2 k11_2
 have k12_3 := kt hg12 3 k11_3
 have k12_40 := kt hg12 40 (hB12.is 5)
 refine wp_cond_false ((fr_eval rfl).trans k12_40) ?_
 refine wp_skip ?_
 refine inBlock_normal ?_
 refine hK4 _ _ ?_
 refine wp_seq_k fun K23 hK23 => ?_
 refine region_dk 2 [(65, 0), (66, 1), (3, 3)] [[], [0], [0, 1], [0, 1, 2]] (rel [is (.agg #[.int .i64 q.ar, .int .i64 q.bo, .int .i64 q.wa, .int .i64 q.tl, .int .i64 q.se, .int .i64 q.ru, .int .i64 q.wo, .int .i64 q.pl, .int .i64 q.fr, .int .i64 q.ma, .slice (some ⟨bs, os, none⟩) (1) (cs)]),
   is (.agg #[.int .i64 q.ar, .int .i64 q.bo, .int .i64 q.wa, .int .i64 q.tl, .int .i64 q.se, .int .i64 q.ru, .int .i64 q.wo, .int .i64 q.pl, .int .i64 q.fr, .int .i64 q.ma, .slice (some ⟨bs, os, none⟩) (1) (cs)])])
  ⟨is_k, is_k, trivial⟩
  ⟨fun f s W c d i j k a => opl rfl rfl rfl (a.v 1 k12_1) (blk_below b12_0 c) Try.underlying32 rfl (by kernel_rfl) rfl,
  fun f s W c d i j k a => opv rfl rfl (by simp [go_sem, a.e 65 (d 0 rfl)]) rfl, trivial⟩ ?_
 intro f13 s13 W13 hB13 g13 hg13
 have fB13 := hB13.f fB12
 have z13 := hB13.below.size
 have b13_0 := hB13.b b12_0
 have b13_1 := hB13.b b12_1
 have b13_2 := hB13.b b12_2
 have b13_3 := hB13.b b12_3
 have b13_4 := hB13.b b12_4
 have b13_5 := hB13.b b12_5
 have b13_6 := hB13.b b12_6
 have b13_7 := hB13.b br12_2
 have k13_2 := kt hg13 2 k12_2
 have k13_66 := kt hg13 66 (hB13.is 1)
 obtain ⟨W14, hW14⟩ : ∃ W', W' = W13.setRow (s1 1) #[.int .i64 q.ar, .int .i64 q.bo, .int .i64 q.wa, .int .i64 q.tl, .int .i64 q.se, .int .i64 q.ru, .int .i64 q.wo, .int .i64 q.pl, .int .i64 q.fr, .int .i64 q.ma, .slice (some ⟨bs, os, none⟩) (1) (cs)] := ⟨_, rfl⟩
 refine tail_skip (o := _) rfl ⟨rfl, rfl⟩ (run_seg hW14 (fr_ev k13_2) (fr_ev k13_66) b13_1 rfl rfl rfl rfl) ?_
 obtain ⟨fB14, nb14, ot14, z14⟩ := seg_facts hW14 fB13 b13_1 (by omega)
 clear hW14
 have b14_0 := ot14 _ _ (by omega) b13_0
 have b14_2 := ot14 _ _ (by omega) b13_2
 have b14_3 := ot14 _ _ (by omega) b13_3
 have b14_4 := ot14 _ _ (by omega) b13_4
 have b14_5 := ot14 _ _ (by omega) b13_5
 have b14_6 := ot14 _ _ (by omega) b13_6
 have b14_7 := ot14 _ _ (by omega) b13_7
 refine tail_value (o := _) rfl rfl rfl (v := .int .i64 0) (by simp [go_sem]) ?_
 generalize hg15 : upd g13 3 (.int .i64 0) = g15
 have k15_2 := ku hg15 2 k13_2
 have k15_3 := kt hg15 3 (upd_same _ _ _)
 refine wpOps_end ?_
 refine hK23 _ _ ?_
 refine wp_ret ?_
 refine leave_gen (v := .tuple #[.agg #[.int .i64 q.ar, .int .i64 q.bo, .int .i64 q.wa, .int .i64 q.tl, .int .i64 q.se, .int .i64 q.ru, .int .i64 q.wo, .int .i64 q.pl, .int .i64 q.fr, .int .i64 q.ma, .slice (some ⟨bs, os, none⟩) (1) (cs)], .int .i64 0]) (.inr rfl) (by simp [results, Try.results29, go_sem, frv 67 k15_2, cl nb14 0, cl nb14 1, cl nb14 2, cl nb14 3, cl nb14 4, cl nb14 5, cl nb14 6, cl nb14 7, cl nb14 8, cl nb14 9, cl nb14 10, frv 67 k15_3]) ?_
 exact ⟨rfl, fB14⟩
set_option maxRecDepth 100000 in
set_option maxHeartbeats 400000 in
theorem openCount_ok (q : Qu) (bs os cs : Nat) (n : Int) (w : World) (hR : StepR w bs os q) (hq : QuIn q) (gn : 1 ≤ n ∧ n ≤ 100000) :
  Calls Try.prog 25 #[.agg #[.int .i64 q.ar, .int .i64 q.bo, .int .i64 q.wa, .int .i64 q.tl, .int .i64 q.se, .int .i64 q.ru, .int .i64 q.wo, .int .i64 q.pl, .int .i64 q.fr, .int .i64 q.ma, .slice (some ⟨bs, os, none⟩) (1) (cs)], .int .i64 n] w (fun e w' => e = .returned (.tuple #[.agg #[.int .i64 q.ar, .int .i64 q.bo, .int .i64 q.wa, .int .i64 q.tl, .int .i64 q.se, .int .i64 q.ru, .int .i64 q.wo, .int .i64 q.pl, .int .i64 q.fr, .int .i64 q.ma, .slice (some ⟨bs, os, none⟩) (1) (cs)], .int .i64 0]) ∧ Below w.heap.size w w') := by
 refine calls_fr Try.func25 Try.ntmps25 rfl rfl fun g hg => ?_
 have k0 : g 0 = .agg #[.int .i64 q.ar, .int .i64 q.bo, .int .i64 q.wa, .int .i64 q.tl, .int .i64 q.se, .int .i64 q.ru, .int .i64 q.wo, .int .i64 q.pl, .int .i64 q.fr, .int .i64 q.ma, .slice (some ⟨bs, os, none⟩) (1) (cs)] := hg 0
 have k1 : g 1 = .int .i64 n := hg 1
 clear hg
 have fB0 : Below w.heap.size w w := Below.refl _ _
 refine wp_seq_k fun K1 hK1 => ?_
 refine region_dk 3 [(2, 0), (4, 1), (5, 2)] [[], [], []] (rel [bx 0 #[.int .i64 q.ar, .int .i64 q.bo, .int .i64 q.wa, .int .i64 q.tl, .int .i64 q.se, .int .i64 q.ru, .int .i64 q.wo, .int .i64 q.pl, .int .i64 q.fr, .int .i64 q.ma, .slice (some ⟨bs, os, none⟩) (1) (cs)] 32,
   bx 1 #[.int .i64 0, .int .i64 0, .int .i64 0, .int .i64 0, .int .i64 0, .int .i64 0, .int .i64 0, .int .i64 0, .int .i64 0, .int .i64 0, .slice (none) (0) (0)] 86,
   is (.int .i64 0)])
  ⟨bx_k, bx_k, is_k, trivial⟩
  ⟨fun f s W i j k l m a => opb rfl rfl (by simp [go_sem, a.e 0 k0]),
  fun f s W i j k l m a => opb rfl rfl (by simp [go_sem]),
  fun f s W i j k l m a => opv rfl rfl (by simp [go_sem]) rfl, trivial⟩ ?_
 intro f1 s1 W1 hB1 g1 hg1
 have fB1 := hB1.f fB0
 have z1 := hB1.below.size
 obtain ⟨r1_0, br1_0⟩ := hB1.is 0
 have lr1_0 := hB1.lr 0 br1_0
 obtain ⟨r1_1, br1_1⟩ := hB1.is 1
 have lr1_1 := hB1.lr 1 br1_1
 have ne1_0_1 := hB1.nb 0 1
 refine hK1 _ _ ?_
 have k1_1 := kt hg1 1 k1
 have k1_2 := kt hg1 2 r1_0
 have k1_4 := kt hg1 4 r1_1
 have k1_5 := kt hg1 5 (hB1.is 2)
 refine wp_seq_k fun K2 hK2 => ?_
 refine region_dk 6 [(9, 0), (10, 1), (8, 2), (11, 3), (12, 4), (6, 5), (7, 7)] [[], [0], [0, 1], [0, 1, 2], [0, 1, 2], [], [0, 1, 2, 3, 5], [0, 1, 2, 3, 4, 5, 6]] (rel [is (.agg #[.int .i64 q.ar, .int .i64 q.bo, .int .i64 q.wa, .int .i64 q.tl, .int .i64 q.se, .int .i64 q.ru, .int .i64 q.wo, .int .i64 q.pl, .int .i64 q.fr, .int .i64 q.ma, .slice (some ⟨bs, os, none⟩) (1) (cs)]),
   is (.tuple #[.agg #[.int .i64 q.ar, .int .i64 q.bo, .int .i64 q.wa, .int .i64 q.tl, .int .i64 q.se, .int .i64 q.ru, .int .i64 q.wo, .int .i64 q.pl, .int .i64 q.fr, .int .i64 q.ma, .slice (some ⟨bs, os, none⟩) (1) (cs)], .int .i64 0]),
   is (.tuple #[.agg #[.int .i64 q.ar, .int .i64 q.bo, .int .i64 q.wa, .int .i64 q.tl, .int .i64 q.se, .int .i64 q.ru, .int .i64 q.wo, .int .i64 q.pl, .int .i64 q.fr, .int .i64 q.ma, .slice (some ⟨bs, os, none⟩) (1) (cs)], .int .i64 0]),
   is (.agg #[.int .i64 q.ar, .int .i64 q.bo, .int .i64 q.wa, .int .i64 q.tl, .int .i64 q.se, .int .i64 q.ru, .int .i64 q.wo, .int .i64 q.pl, .int .i64 q.fr, .int .i64 q.ma, .slice (some ⟨bs, os, none⟩) (1) (cs)]),
   is (.int .i64 0),
   bx 5 #[.int .i64 0, .int .i64 0, .int .i64 0, .int .i64 0, .int .i64 0, .int .i64 0, .int .i64 0, .int .i64 0, .int .i64 0, .int .i64 0, .slice (none) (0) (0)] 86])
  ⟨is_k, is_k, is_k, is_k, is_k, bx_k, trivial⟩
  ⟨fun f s W i j k l m a => opl rfl rfl rfl (a.v 2 k1_2) (blk_below br1_0 i) Try.underlying32 rfl (by kernel_rfl) rfl,
  fun f s W i j k l m a => by have p := below_trans fB1 i; exact opc rfl rfl (by simp [go_sem, a.e 9 (j 0 rfl)]) (open_ok q bs os cs W (hR.below p) hq),
  fun f s W i j k l m a => opv rfl rfl (by simp [go_sem, a.e 10 (j 1 rfl)]) rfl,
  fun f s W i j k l m a => opv rfl rfl (by simp [go_sem, a.e 8 (j 2 rfl)]) rfl,
  fun f s W i j k l m a => opv rfl rfl (by simp [go_sem, a.e 8 (j 2 rfl)]) rfl,
  fun f s W i j k l m a => opb rfl rfl (by simp [go_sem]), trivial⟩ ?_
 intro f2 s2 W2 hB2 g2 hg2
 have fB2 := hB2.f fB1
 have z2 := hB2.below.size
 have b2_0 := hB2.b br1_0
 have b2_1 := hB2.b br1_1
 obtain ⟨r2_5, br2_5⟩ := hB2.is 5
 have lr2_5 := hB2.lr 5 br2_5
 have k2_1 := kt hg2 1 k1_1
 have k2_4 := kt hg2 4 k1_4
 have k2_5 := kt hg2 5 k1_5
 have k2_11 := kt hg2 11 (hB2.is 3)
 have k2_12 := kt hg2 12 (hB2.is 4)
 have k2_6 := kt hg2 6 r2_5
 obtain ⟨W3, hW3⟩ : ∃ W', W' = W2.setRow (s2 5) #[.int .i64 q.ar, .int .i64 q.bo, .int .i64 q.wa, .int .i64 q.tl, .int .i64 q.se, .int .i64 q.ru, .int .i64 q.wo, .int .i64 q.pl, .int .i64 q.fr, .int .i64 q.ma, .slice (some ⟨bs, os, none⟩) (1) (cs)] := ⟨_, rfl⟩
 refine tail_skip (o := _) rfl ⟨rfl, rfl⟩ (run_seg hW3 (fr_ev k2_6) (fr_ev k2_11) br2_5 rfl rfl rfl rfl) ?_
 obtain ⟨fB3, nb3, ot3, z3⟩ := seg_facts hW3 fB2 br2_5 (by omega)
 clear hW3
 have b3_0 := ot3 _ _ (by omega) b2_0
 have b3_1 := ot3 _ _ (by omega) b2_1
 refine tail_value (o := _) rfl rfl rfl (v := .int .i64 0) (by simp [go_sem, frv 23 k2_12]) ?_
 generalize hg4 : upd g2 7 (.int .i64 0) = g4
 have k4_1 := ku hg4 1 k2_1
 have k4_4 := ku hg4 4 k2_4
 have k4_5 := ku hg4 5 k2_5
 have k4_6 := ku hg4 6 k2_6
 have k4_7 := kt hg4 7 (upd_same _ _ _)
 refine wpOps_end ?_
 refine hK2 _ _ ?_
 refine wp_seq_k fun K3 hK3 => ?_
 refine wp_seq_k fun K4 hK4 => ?_
 refine region_dk 8 [(13, 0), (14, 1), (15, 2), (16, 3), (17, 4), (18, 5), (19, 6), (20, 7)] [[], [0], [0, 1], [0, 1, 2], [0, 1, 2, 3], [0, 1, 2, 3, 4], [0, 1, 2, 3, 4, 5], [0, 1, 2, 3, 4, 5, 6]] (rel [is (.int .i64 0),
   is (.bool true),
   is (.bool true),
   is (.int .i64 n),
   row 4 1 #[.int .i64 n] 3,
   is (.bool true),
   is (.bool false),
   is (.bool false)])
  ⟨is_k, is_k, is_k, is_k, row_k, is_k, is_k, is_k, trivial⟩
  ⟨fun f s W i j k l m a => opv rfl rfl (by simp [go_sem, a.e 7 k4_7]) rfl,
  fun f s W i j k l m a => opv rfl rfl (by simp [go_sem, a.e 13 (j 0 rfl)]) rfl,
  fun f s W i j k l m a => opv rfl rfl (by simp [go_sem, a.e 14 (j 1 rfl)]) rfl,
  fun f s W i j k l m a => osure rfl rfl (a.says (d := 15) rfl rfl (j 2 rfl)) (gv (by simp [go_sem, a.e 1 k4_1]) rfl),
  fun f s W i j k l m a => osure rfl rfl (a.says (d := 15) rfl rfl (j 2 rfl)) (gr (by simp [go_sem, a.e 16 (j 3 rfl)])),
  fun f s W i j k l m a => osure rfl rfl (a.says (d := 15) rfl rfl (j 2 rfl)) (gc (args := #[.slice (some ⟨(s 4), 0, none⟩) (1) (1)]) (by simp [go_sem, a.e 17 (j 4 rfl).1]) (isCount_yes _ 1 1 [n] W (ii_block (xs := [n]) (j 4 rfl).2 rfl rfl) (by simp; omega))),
  fun f s W i j k l m a => osure rfl rfl (a.says (d := 15) rfl rfl (j 2 rfl)) (gv (by simp [go_sem, a.e 18 (j 5 rfl)]) rfl),
  fun f s W i j k l m a => opk (c := true) rfl rfl (fun h => absurd h (by decide)) (fun _ => by simp [go_sem, a.e 15 (j 2 rfl), a.e 19 (j 6 rfl)]), trivial⟩ ?_
 intro f5 s5 W5 hB5 g5 hg5
 have fB5 := hB5.f fB3
 have z5 := hB5.below.size
 have b5_0 := hB5.b b3_0
 have b5_1 := hB5.b b3_1
 have b5_2 := hB5.b nb3
 obtain ⟨r5_4, br5_4⟩ := hB5.is 4
 have lr5_4 := hB5.lr 4 br5_4
 refine hK4 _ _ ?_
 have k5_4 := kt hg5 4 k4_4
 have k5_5 := kt hg5 5 k4_5
 have k5_6 := kt hg5 6 k4_6
 have k5_7 := kt hg5 7 k4_7
 have k5_20 := kt hg5 20 (hB5.is 7)
 refine wp_cond_false ((fr_eval rfl).trans k5_20) ?_
 refine wp_skip ?_
 refine hK3 _ _ ?_
 refine wp_seq_k fun K6 hK6 => ?_
 refine region_dk 2 [(21, 0), (22, 1), (5, 3)] [[], [], [0], [0, 1, 2]] (rel [is (.agg #[.int .i64 q.ar, .int .i64 q.bo, .int .i64 q.wa, .int .i64 q.tl, .int .i64 q.se, .int .i64 q.ru, .int .i64 q.wo, .int .i64 q.pl, .int .i64 q.fr, .int .i64 q.ma, .slice (some ⟨bs, os, none⟩) (1) (cs)]),
   is (.int .i64 0)])
  ⟨is_k, is_k, trivial⟩
  ⟨fun f s W i j k l m a => opl rfl rfl rfl (a.v 6 k5_6) (blk_below b5_2 i) Try.underlying86 rfl (by kernel_rfl) rfl,
  fun f s W i j k l m a => opv rfl rfl (by simp [go_sem, a.e 7 k5_7]) rfl, trivial⟩ ?_
 intro f6 s6 W6 hB6 g6 hg6
 have fB6 := hB6.f fB5
 have z6 := hB6.below.size
 have b6_0 := hB6.b b5_0
 have b6_1 := hB6.b b5_1
 have b6_2 := hB6.b b5_2
 have b6_3 := hB6.b br5_4
 have k6_4 := kt hg6 4 k5_4
 have k6_21 := kt hg6 21 (hB6.is 0)
 have k6_22 := kt hg6 22 (hB6.is 1)
 obtain ⟨W7, hW7⟩ : ∃ W', W' = W6.setRow (s1 1) #[.int .i64 q.ar, .int .i64 q.bo, .int .i64 q.wa, .int .i64 q.tl, .int .i64 q.se, .int .i64 q.ru, .int .i64 q.wo, .int .i64 q.pl, .int .i64 q.fr, .int .i64 q.ma, .slice (some ⟨bs, os, none⟩) (1) (cs)] := ⟨_, rfl⟩
 refine tail_skip (o := _) rfl ⟨rfl, rfl⟩ (run_seg hW7 (fr_ev k6_4) (fr_ev k6_21) b6_1 rfl rfl rfl rfl) ?_
 obtain ⟨fB7, nb7, ot7, z7⟩ := seg_facts hW7 fB6 b6_1 (by omega)
 clear hW7
 have b7_0 := ot7 _ _ (by omega) b6_0
 have b7_2 := ot7 _ _ (by omega) b6_2
 have b7_3 := ot7 _ _ (by omega) b6_3
 refine tail_value (o := _) rfl rfl rfl (v := .int .i64 0) (by simp [go_sem, frv 23 k6_22]) ?_
 generalize hg8 : upd g6 5 (.int .i64 0) = g8
 have k8_4 := ku hg8 4 k6_4
 have k8_5 := kt hg8 5 (upd_same _ _ _)
 refine wpOps_end ?_
 refine hK6 _ _ ?_
 refine wp_ret ?_
 refine leave_gen (v := .tuple #[.agg #[.int .i64 q.ar, .int .i64 q.bo, .int .i64 q.wa, .int .i64 q.tl, .int .i64 q.se, .int .i64 q.ru, .int .i64 q.wo, .int .i64 q.pl, .int .i64 q.fr, .int .i64 q.ma, .slice (some ⟨bs, os, none⟩) (1) (cs)], .int .i64 0]) (.inr rfl) (by simp [results, Try.results25, go_sem, frv 23 k8_4, cl nb7 0, cl nb7 1, cl nb7 2, cl nb7 3, cl nb7 4, cl nb7 5, cl nb7 6, cl nb7 7, cl nb7 8, cl nb7 9, cl nb7 10, frv 23 k8_5]) ?_
 exact ⟨rfl, fB7⟩
set_option maxRecDepth 100000 in
set_option maxHeartbeats 400000 in
theorem prUp_any (a d : Int) (w : World) (ga : 0 ≤ a ∧ a ≤ 4000000000000000000) (gd : 1 ≤ d ∧ d ≤ 1000000000000) (gu : 0 ≤ upQ a d ∧ upQ a d ≤ 4000000000000000000) :
  Calls Try.prog 45 #[.int .i64 a, .int .i64 d] w (fun e w' => e = .returned (.int .i64 (upQ a d)) ∧ Below w.heap.size w w') := by
 refine calls_fr Try.func45 Try.ntmps45 rfl rfl fun g hg => ?_
 have k0 : g 0 = .int .i64 a := hg 0
 have k1 : g 1 = .int .i64 d := hg 1
 clear hg
 have fB0 : Below w.heap.size w w := Below.refl _ _
 refine wp_seq_k fun K1 hK1 => ?_
 refine region_dk 1 [(4, 0)] [[]] (rel [is (.int .i64 0)])
  ⟨is_k, trivial⟩
  ⟨fun f s W c h i j k b => opv rfl rfl (by simp [go_sem]) rfl, trivial⟩ ?_
 intro f1 s1 W1 hB1 g1 hg1
 have fB1 := hB1.f fB0
 have z1 := hB1.below.size
 refine hK1 _ _ ?_
 have k1_0 := kt hg1 0 k0
 have k1_1 := kt hg1 1 k1
 have k1_4 := kt hg1 4 (hB1.is 0)
 refine wp_seq_k fun K2 hK2 => ?_
 refine region_dk 7 [(5, 0), (6, 1), (7, 2), (8, 3), (9, 4), (10, 5), (4, 6)] [[], [], [0, 1], [0, 1, 2], [], [0, 1, 2, 3, 4], [0, 1, 2, 3, 4, 5]] (rel [is (.int .i64 a),
   is (.int .i64 d),
   is (.int .i64 (a + d)),
   is (.int .i64 ((a + d) - 1)),
   is (.int .i64 d),
   is (.int .i64 ((upQ a d))),
   is (.int .i64 ((upQ a d)))])
  ⟨is_k, is_k, is_k, is_k, is_k, is_k, is_k, trivial⟩
  ⟨fun f s W c h i j k b => opv rfl rfl (by simp [go_sem, b.e 0 k1_0]) rfl,
  fun f s W c h i j k b => opv rfl rfl (by simp [go_sem, b.e 1 k1_1]) rfl,
  fun f s W c h i j k b => opv rfl rfl (by simp [go_sem, b.e 5 (h 0 rfl), b.e 6 (h 1 rfl), IntWalk.i64_in (a + d) (by omega)]) rfl,
  fun f s W c h i j k b => opv rfl rfl (by simp [go_sem, b.e 7 (h 2 rfl), IntWalk.i64_in ((a + d) - 1) (by omega)]) rfl,
  fun f s W c h i j k b => opv rfl rfl (by simp [go_sem, b.e 1 k1_1]) rfl,
  fun f s W c h i j k b => by have qu_ : ((a + d) - 1).tdiv (d) = upQ a d := Int.tdiv_eq_ediv_of_nonneg (by omega); have qw_ := IntWalk.i64_in (upQ a d) (by omega); have qz_ : ¬ d = 0 := (by omega); exact opv rfl rfl (by simp [go_sem, b.e 8 (h 3 rfl), b.e 9 (h 4 rfl), qu_, qw_, qz_]) rfl,
  fun f s W c h i j k b => opv rfl rfl (by simp [go_sem, b.e 10 (h 5 rfl)]) rfl, trivial⟩ ?_
 intro f2 s2 W2 hB2 g2 hg2
 have fB2 := hB2.f fB1
 have z2 := hB2.below.size
 refine hK2 _ _ ?_
 have k2_4 := kt hg2 4 (hB2.is 6)
 refine wp_ret ?_
 refine leave_one (N := 11) (v := .int .i64 ((upQ a d))) (.inr rfl) Try.results45 rfl k2_4 ?_
 exact ⟨rfl, fB2⟩
set_option maxRecDepth 100000 in
set_option maxHeartbeats 8000000 in
theorem parts_ok (q : Qu) (bs os cs : Nat) (n : Int) (w : World) (hR : StepR w bs os q) (hq : QuIn q) (gn : 1 ≤ n ∧ n ≤ 100000) :
  Calls Try.prog 26 #[.agg #[.int .i64 q.ar, .int .i64 q.bo, .int .i64 q.wa, .int .i64 q.tl, .int .i64 q.se, .int .i64 q.ru, .int .i64 q.wo, .int .i64 q.pl, .int .i64 q.fr, .int .i64 q.ma, .slice (some ⟨bs, os, none⟩) (1) (cs)], .int .i64 n] w (fun e w' => e = .returned (.agg #[.int .i64 (boardQ q n), .int .i64 q.tl, .int .i64 (setQ q n), .int .i64 (workQ q n), .int .i64 (frQ q n)]) ∧ Below w.heap.size w w') := by
 have gq_1 := hq.ar
 have gq_2 := hq.bo
 have gq_3 := hq.wa
 have gq_4 := hq.tl
 have gq_5 := hq.se
 have gq_6 := hq.ru
 have gq_7 := hq.wo
 have gq_8 := hq.pl
 have gq_9 := hq.fr
 have gq_10 := hq.ma
 have hN := quNo hq gn
 have hb1_ := hN.b1
 have hb2_ := hN.b2
 have hb3_ := hN.b3
 have hbd_ := hN.bd
 have hur_ := hN.ur
 have hst_ := hN.st
 have hwn_ := hN.wn
 have hwk_ := hN.wk
 have hup_ := hN.up
 have hfr_ := hN.fr
 have hco_ := hN.co
 have hof_ := hN.of
 have hp1_ := hN.p1
 have hp2_ := hN.p2
 have hpr_ := hN.pr
 refine calls_fr Try.func26 Try.ntmps26 rfl rfl fun g hg => ?_
 have k0 : g 0 = .agg #[.int .i64 q.ar, .int .i64 q.bo, .int .i64 q.wa, .int .i64 q.tl, .int .i64 q.se, .int .i64 q.ru, .int .i64 q.wo, .int .i64 q.pl, .int .i64 q.fr, .int .i64 q.ma, .slice (some ⟨bs, os, none⟩) (1) (cs)] := hg 0
 have k1 : g 1 = .int .i64 n := hg 1
 clear hg
 have fB0 : Below w.heap.size w w := Below.refl _ _
 refine wp_seq_k fun K1 hK1 => ?_
 refine region_dk 2 [(2, 0), (4, 1)] [[], []] (rel [bx 0 #[.int .i64 q.ar, .int .i64 q.bo, .int .i64 q.wa, .int .i64 q.tl, .int .i64 q.se, .int .i64 q.ru, .int .i64 q.wo, .int .i64 q.pl, .int .i64 q.fr, .int .i64 q.ma, .slice (some ⟨bs, os, none⟩) (1) (cs)] 86,
   bx 1 #[.int .i64 0, .int .i64 0, .int .i64 0, .int .i64 0, .int .i64 0] 44])
  ⟨bx_k, bx_k, trivial⟩
  ⟨fun f s W c d h i j a => opb rfl rfl (by simp [go_sem, a.e 0 k0]),
  fun f s W c d h i j a => opb rfl rfl (by simp [go_sem]), trivial⟩ ?_
 intro f1 s1 W1 hB1 g1 hg1
 have fB1 := hB1.f fB0
 have z1 := hB1.below.size
 obtain ⟨r1_0, br1_0⟩ := hB1.is 0
 have lr1_0 := hB1.lr 0 br1_0
 obtain ⟨r1_1, br1_1⟩ := hB1.is 1
 have lr1_1 := hB1.lr 1 br1_1
 have ne1_0_1 := hB1.nb 0 1
 refine hK1 _ _ ?_
 have k1_1 := kt hg1 1 k1
 have k1_2 := kt hg1 2 r1_0
 have k1_4 := kt hg1 4 r1_1
 refine wp_seq_k fun K2 hK2 => ?_
 refine region_dk 43 [(5, 0), (6, 1), (7, 2), (8, 3), (9, 4), (10, 5), (11, 6), (12, 7), (13, 8), (14, 9), (15, 10), (16, 11), (17, 12), (18, 13), (19, 14), (20, 15), (21, 16), (22, 17), (23, 18), (24, 19), (25, 20), (26, 21), (27, 22), (28, 23), (29, 24), (30, 25), (31, 26), (32, 27), (33, 28), (34, 29), (35, 30), (36, 31), (37, 32), (38, 33), (39, 34), (40, 35), (41, 36), (42, 37), (43, 38), (44, 39), (45, 40), (46, 41), (47, 42)] [[], [], [1], [1, 2], [0, 1, 2, 3], [], [5], [5, 6], [5, 6, 7], [0, 1, 2, 3, 4, 5, 6, 7, 8], [], [10], [10, 11], [0, 1, 2, 3, 4, 5, 6, 7, 8, 9, 10, 11, 12], [0, 1, 2, 3, 4, 5, 6, 7, 8, 9, 10, 11, 12, 13], [], [15], [15, 16], [], [18], [18, 19], [], [], [22], [22, 23], [0, 1, 2, 3, 4, 5, 6, 7, 8, 9, 10, 11, 12, 13, 14, 21, 22, 23, 24], [0, 1, 2, 3, 4, 5, 6, 7, 8, 9, 10, 11, 12, 13, 14, 18, 19, 20, 21, 22, 23, 24, 25], [], [27], [27, 28], [], [27, 28, 29, 30], [0, 1, 2, 3, 4, 5, 6, 7, 8, 9, 10, 11, 12, 13, 14, 21, 22, 23, 24, 25, 27, 28, 29, 30, 31], [], [33], [33, 34], [], [], [37], [37, 38], [0, 1, 2, 3, 4, 5, 6, 7, 8, 9, 10, 11, 12, 13, 14, 21, 22, 23, 24, 25, 27, 28, 29, 30, 31, 32, 36, 37, 38, 39], [0, 1, 2, 3, 4, 5, 6, 7, 8, 9, 10, 11, 12, 13, 14, 21, 22, 23, 24, 25, 27, 28, 29, 30, 31, 32, 33, 34, 35, 36, 37, 38, 39, 40], [0, 1, 2, 3, 4, 5, 6, 7, 8, 9, 10, 11, 12, 13, 14, 15, 16, 17, 18, 19, 20, 21, 22, 23, 24, 25, 26, 27, 28, 29, 30, 31, 32, 33, 34, 35, 36, 37, 38, 39, 40, 41], [0, 1, 2, 3, 4, 5, 6, 7, 8, 9, 10, 11, 12, 13, 14, 15, 16, 17, 18, 19, 20, 21, 22, 23, 24, 25, 26, 27, 28, 29, 30, 31, 32, 33, 34, 35, 36, 37, 38, 39, 40, 41, 42]] (rel [is (.int .i64 n),
   is (.pointer (some ⟨(s1 0), 0, none⟩)),
   is (.pointer (some ⟨(s1 0), 0, none⟩)),
   is (.int .i64 q.ar),
   is (.int .i64 (n * q.ar)),
   is (.pointer (some ⟨(s1 0), 0, none⟩)),
   is (.pointer (some ⟨(s1 0), 2, none⟩)),
   is (.int .i64 q.wa),
   is (.int .i64 (1000 + q.wa)),
   is (.int .i64 ((n * q.ar) * (1000 + q.wa))),
   is (.pointer (some ⟨(s1 0), 0, none⟩)),
   is (.pointer (some ⟨(s1 0), 1, none⟩)),
   is (.int .i64 q.bo),
   is (.int .i64 (((n * q.ar) * (1000 + q.wa)) * q.bo)),
   is (.int .i64 ((boardQ q n))),
   is (.pointer (some ⟨(s1 0), 0, none⟩)),
   is (.pointer (some ⟨(s1 0), 3, none⟩)),
   is (.int .i64 q.tl),
   is (.pointer (some ⟨(s1 0), 0, none⟩)),
   is (.pointer (some ⟨(s1 0), 4, none⟩)),
   is (.int .i64 q.se),
   is (.int .i64 n),
   is (.pointer (some ⟨(s1 0), 0, none⟩)),
   is (.pointer (some ⟨(s1 0), 5, none⟩)),
   is (.int .i64 q.ru),
   is (.int .i64 ((upQ n q.ru))),
   is (.int .i64 (q.se * (upQ n q.ru))),
   is (.pointer (some ⟨(s1 0), 0, none⟩)),
   is (.pointer (some ⟨(s1 0), 6, none⟩)),
   is (.int .i64 q.wo),
   is (.int .i64 n),
   is (.int .i64 (q.wo * n)),
   is (.int .i64 ((workQ q n))),
   is (.pointer (some ⟨(s1 0), 0, none⟩)),
   is (.pointer (some ⟨(s1 0), 8, none⟩)),
   is (.int .i64 q.fr),
   is (.int .i64 n),
   is (.pointer (some ⟨(s1 0), 0, none⟩)),
   is (.pointer (some ⟨(s1 0), 7, none⟩)),
   is (.int .i64 q.pl),
   is (.int .i64 ((upQ n q.pl))),
   is (.int .i64 (q.fr * (upQ n q.pl))),
   is (.agg #[.int .i64 ((boardQ q n)), .int .i64 q.tl, .int .i64 (q.se * (upQ n q.ru)), .int .i64 ((workQ q n)), .int .i64 (q.fr * (upQ n q.pl))])])
  ⟨is_k, is_k, is_k, is_k, is_k, is_k, is_k, is_k, is_k, is_k, is_k, is_k, is_k, is_k, is_k, is_k, is_k, is_k, is_k, is_k, is_k, is_k, is_k, is_k, is_k, is_k, is_k, is_k, is_k, is_k, is_k, is_k, is_k, is_k, is_k, is_k, is_k, is_k, is_k, is_k, is_k, is_k, is_k, trivial⟩
  ⟨fun f s W c d h i j a => opv rfl rfl (by simp [go_sem, a.e 1 k1_1]) rfl,
  fun f s W c d h i j a => opv rfl rfl (by simp [go_sem, a.e 2 k1_2]) rfl,
  fun f s W c d h i j a => opv rfl rfl (by simp [go_sem, a.e 6 (d 1 rfl)]) rfl,
  fun f s W c d h i j a => opv rfl rfl (by simp [go_sem, a.e 7 (d 2 rfl), cb br1_0 c 0]) rfl,
  fun f s W c d h i j a => opv rfl rfl (by simp [go_sem, a.e 5 (d 0 rfl), a.e 8 (d 3 rfl), IntWalk.i64_in (n * q.ar) (by show -9223372036854775808 ≤ b1Q q n ∧ b1Q q n ≤ 9223372036854775807; omega)]) rfl,
  fun f s W c d h i j a => opv rfl rfl (by simp [go_sem, a.e 2 k1_2]) rfl,
  fun f s W c d h i j a => opv rfl rfl (by simp [go_sem, a.e 10 (d 5 rfl)]) rfl,
  fun f s W c d h i j a => opv rfl rfl (by simp [go_sem, a.e 11 (d 6 rfl), cb br1_0 c 2]) rfl,
  fun f s W c d h i j a => opv rfl rfl (by simp [go_sem, a.e 12 (d 7 rfl), IntWalk.i64_in (1000 + q.wa) (by omega)]) rfl,
  fun f s W c d h i j a => opv rfl rfl (by simp [go_sem, a.e 9 (d 4 rfl), a.e 13 (d 8 rfl), IntWalk.i64_in ((n * q.ar) * (1000 + q.wa)) (by show -9223372036854775808 ≤ b2Q q n ∧ b2Q q n ≤ 9223372036854775807; omega)]) rfl,
  fun f s W c d h i j a => opv rfl rfl (by simp [go_sem, a.e 2 k1_2]) rfl,
  fun f s W c d h i j a => opv rfl rfl (by simp [go_sem, a.e 15 (d 10 rfl)]) rfl,
  fun f s W c d h i j a => opv rfl rfl (by simp [go_sem, a.e 16 (d 11 rfl), cb br1_0 c 1]) rfl,
  fun f s W c d h i j a => opv rfl rfl (by simp [go_sem, a.e 14 (d 9 rfl), a.e 17 (d 12 rfl), IntWalk.i64_in (((n * q.ar) * (1000 + q.wa)) * q.bo) (by show -9223372036854775808 ≤ b3Q q n ∧ b3Q q n ≤ 9223372036854775807; omega)]) rfl,
  fun f s W c d h i j a => opc rfl rfl (by simp [go_sem, a.e 18 (d 13 rfl)]) (prUp_any (((n * q.ar) * (1000 + q.wa)) * q.bo) 10000000000 W (by show 0 ≤ b3Q q n ∧ b3Q q n ≤ _; omega) (by omega) (by show 0 ≤ boardQ q n ∧ boardQ q n ≤ _; omega)),
  fun f s W c d h i j a => opv rfl rfl (by simp [go_sem, a.e 2 k1_2]) rfl,
  fun f s W c d h i j a => opv rfl rfl (by simp [go_sem, a.e 20 (d 15 rfl)]) rfl,
  fun f s W c d h i j a => opv rfl rfl (by simp [go_sem, a.e 21 (d 16 rfl), cb br1_0 c 3]) rfl,
  fun f s W c d h i j a => opv rfl rfl (by simp [go_sem, a.e 2 k1_2]) rfl,
  fun f s W c d h i j a => opv rfl rfl (by simp [go_sem, a.e 23 (d 18 rfl)]) rfl,
  fun f s W c d h i j a => opv rfl rfl (by simp [go_sem, a.e 24 (d 19 rfl), cb br1_0 c 4]) rfl,
  fun f s W c d h i j a => opv rfl rfl (by simp [go_sem, a.e 1 k1_1]) rfl,
  fun f s W c d h i j a => opv rfl rfl (by simp [go_sem, a.e 2 k1_2]) rfl,
  fun f s W c d h i j a => opv rfl rfl (by simp [go_sem, a.e 27 (d 22 rfl)]) rfl,
  fun f s W c d h i j a => opv rfl rfl (by simp [go_sem, a.e 28 (d 23 rfl), cb br1_0 c 5]) rfl,
  fun f s W c d h i j a => opc rfl rfl (by simp [go_sem, a.e 26 (d 21 rfl), a.e 29 (d 24 rfl)]) (prUp_any n q.ru W (by omega) (by omega) (by omega)),
  fun f s W c d h i j a => opv rfl rfl (by simp [go_sem, a.e 25 (d 20 rfl), a.e 30 (d 25 rfl), IntWalk.i64_in (q.se * (upQ n q.ru)) (by show -9223372036854775808 ≤ setQ q n ∧ setQ q n ≤ 9223372036854775807; omega)]) rfl,
  fun f s W c d h i j a => opv rfl rfl (by simp [go_sem, a.e 2 k1_2]) rfl,
  fun f s W c d h i j a => opv rfl rfl (by simp [go_sem, a.e 32 (d 27 rfl)]) rfl,
  fun f s W c d h i j a => opv rfl rfl (by simp [go_sem, a.e 33 (d 28 rfl), cb br1_0 c 6]) rfl,
  fun f s W c d h i j a => opv rfl rfl (by simp [go_sem, a.e 1 k1_1]) rfl,
  fun f s W c d h i j a => opv rfl rfl (by simp [go_sem, a.e 34 (d 29 rfl), a.e 35 (d 30 rfl), IntWalk.i64_in (q.wo * n) (by omega)]) rfl,
  fun f s W c d h i j a => opc rfl rfl (by simp [go_sem, a.e 36 (d 31 rfl)]) (prUp_any (q.wo * n) 1000 W (by omega) (by omega) (by show 0 ≤ workQ q n ∧ workQ q n ≤ _; omega)),
  fun f s W c d h i j a => opv rfl rfl (by simp [go_sem, a.e 2 k1_2]) rfl,
  fun f s W c d h i j a => opv rfl rfl (by simp [go_sem, a.e 38 (d 33 rfl)]) rfl,
  fun f s W c d h i j a => opv rfl rfl (by simp [go_sem, a.e 39 (d 34 rfl), cb br1_0 c 8]) rfl,
  fun f s W c d h i j a => opv rfl rfl (by simp [go_sem, a.e 1 k1_1]) rfl,
  fun f s W c d h i j a => opv rfl rfl (by simp [go_sem, a.e 2 k1_2]) rfl,
  fun f s W c d h i j a => opv rfl rfl (by simp [go_sem, a.e 42 (d 37 rfl)]) rfl,
  fun f s W c d h i j a => opv rfl rfl (by simp [go_sem, a.e 43 (d 38 rfl), cb br1_0 c 7]) rfl,
  fun f s W c d h i j a => opc rfl rfl (by simp [go_sem, a.e 41 (d 36 rfl), a.e 44 (d 39 rfl)]) (prUp_any n q.pl W (by omega) (by omega) (by omega)),
  fun f s W c d h i j a => opv rfl rfl (by simp [go_sem, a.e 40 (d 35 rfl), a.e 45 (d 40 rfl), IntWalk.i64_in (q.fr * (upQ n q.pl)) (by show -9223372036854775808 ≤ frQ q n ∧ frQ q n ≤ 9223372036854775807; omega)]) rfl,
  fun f s W c d h i j a => opv rfl rfl (by simp [go_sem, a.e 19 (d 14 rfl), a.e 22 (d 17 rfl), a.e 31 (d 26 rfl), a.e 37 (d 32 rfl), a.e 46 (d 41 rfl)]) rfl, trivial⟩ ?_
 intro f2 s2 W2 hB2 g2 hg2
 have fB2 := hB2.f fB1
 have z2 := hB2.below.size
 have b2_0 := hB2.b br1_0
 have b2_1 := hB2.b br1_1
 have k2_4 := kt hg2 4 k1_4
 have k2_47 := kt hg2 47 (hB2.is 42)
 obtain ⟨W3, hW3⟩ : ∃ W', W' = W2.setRow (s1 1) #[.int .i64 ((boardQ q n)), .int .i64 q.tl, .int .i64 (q.se * (upQ n q.ru)), .int .i64 ((workQ q n)), .int .i64 (q.fr * (upQ n q.pl))] := ⟨_, rfl⟩
 refine tail_skip (o := _) rfl ⟨rfl, rfl⟩ (run_seg hW3 (fr_ev k2_4) (fr_ev k2_47) b2_1 rfl rfl rfl rfl) ?_
 obtain ⟨fB3, nb3, ot3, z3⟩ := seg_facts hW3 fB2 b2_1 (by omega)
 clear hW3
 have b3_0 := ot3 _ _ (by omega) b2_0
 refine wpOps_end ?_
 refine hK2 _ _ ?_
 refine wp_ret ?_
 refine leave_gen (v := .agg #[.int .i64 ((boardQ q n)), .int .i64 q.tl, .int .i64 (q.se * (upQ n q.ru)), .int .i64 ((workQ q n)), .int .i64 (q.fr * (upQ n q.pl))]) (.inr rfl) (by simp [results, Try.results26, go_sem, frv 48 k2_4, cl nb3 0, cl nb3 1, cl nb3 2, cl nb3 3, cl nb3 4]) ?_
 exact ⟨rfl, fB3⟩
set_option maxRecDepth 100000 in
set_option maxHeartbeats 400000 in
theorem cost_ok (xa xb xc xd xe : Int) (w : World) (gc_1 : 0 ≤ xa ∧ xa ≤ 1000000000000) (gc_2 : 0 ≤ xb ∧ xb ≤ 1000000000000) (gc_3 : 0 ≤ xc ∧ xc ≤ 1000000000000) (gc_4 : 0 ≤ xd ∧ xd ≤ 1000000000000) (gc_5 : 0 ≤ xe ∧ xe ≤ 1000000000000) :
  Calls Try.prog 46 #[.agg #[.int .i64 xa, .int .i64 xb, .int .i64 xc, .int .i64 xd, .int .i64 xe]] w (fun e w' => e = .returned (.int .i64 ((((xa + xb) + xc) + xd) + xe)) ∧ Below w.heap.size w w') := by
 refine calls_fr Try.func46 Try.ntmps46 rfl rfl fun g hg => ?_
 have k0 : g 0 = .agg #[.int .i64 xa, .int .i64 xb, .int .i64 xc, .int .i64 xd, .int .i64 xe] := hg 0
 clear hg
 have fB0 : Below w.heap.size w w := Below.refl _ _
 refine wp_seq_k fun K1 hK1 => ?_
 refine region_dk 2 [(1, 0), (2, 1)] [[], []] (rel [bx 0 #[.int .i64 xa, .int .i64 xb, .int .i64 xc, .int .i64 xd, .int .i64 xe] 44,
   is (.int .i64 0)])
  ⟨bx_k, is_k, trivial⟩
  ⟨fun f s W c d h i j a => opb rfl rfl (by simp [go_sem, a.e 0 k0]),
  fun f s W c d h i j a => opv rfl rfl (by simp [go_sem]) rfl, trivial⟩ ?_
 intro f1 s1 W1 hB1 g1 hg1
 have fB1 := hB1.f fB0
 have z1 := hB1.below.size
 obtain ⟨r1_0, br1_0⟩ := hB1.is 0
 have lr1_0 := hB1.lr 0 br1_0
 refine hK1 _ _ ?_
 have k1_1 := kt hg1 1 r1_0
 have k1_2 := kt hg1 2 (hB1.is 1)
 refine wp_seq_k fun K2 hK2 => ?_
 refine region_dk 15 [(3, 0), (4, 1), (5, 2), (6, 3), (7, 4), (8, 5), (9, 6), (10, 7), (11, 8), (12, 9), (13, 10), (14, 11), (15, 12), (16, 13), (2, 14)] [[], [0], [], [2], [0, 1, 2, 3], [], [5], [0, 1, 2, 3, 4, 5, 6], [], [8], [0, 1, 2, 3, 4, 5, 6, 7, 8, 9], [], [11], [0, 1, 2, 3, 4, 5, 6, 7, 8, 9, 10, 11, 12], [0, 1, 2, 3, 4, 5, 6, 7, 8, 9, 10, 11, 12, 13]] (rel [is (.pointer (some ⟨(s1 0), 0, none⟩)),
   is (.int .i64 xa),
   is (.pointer (some ⟨(s1 0), 1, none⟩)),
   is (.int .i64 xb),
   is (.int .i64 (xa + xb)),
   is (.pointer (some ⟨(s1 0), 2, none⟩)),
   is (.int .i64 xc),
   is (.int .i64 ((xa + xb) + xc)),
   is (.pointer (some ⟨(s1 0), 3, none⟩)),
   is (.int .i64 xd),
   is (.int .i64 (((xa + xb) + xc) + xd)),
   is (.pointer (some ⟨(s1 0), 4, none⟩)),
   is (.int .i64 xe),
   is (.int .i64 ((((xa + xb) + xc) + xd) + xe)),
   is (.int .i64 ((((xa + xb) + xc) + xd) + xe))])
  ⟨is_k, is_k, is_k, is_k, is_k, is_k, is_k, is_k, is_k, is_k, is_k, is_k, is_k, is_k, is_k, trivial⟩
  ⟨fun f s W c d h i j a => opv rfl rfl (by simp [go_sem, a.e 1 k1_1]) rfl,
  fun f s W c d h i j a => opv rfl rfl (by simp [go_sem, a.e 3 (d 0 rfl), cb br1_0 c 0]) rfl,
  fun f s W c d h i j a => opv rfl rfl (by simp [go_sem, a.e 1 k1_1]) rfl,
  fun f s W c d h i j a => opv rfl rfl (by simp [go_sem, a.e 5 (d 2 rfl), cb br1_0 c 1]) rfl,
  fun f s W c d h i j a => opv rfl rfl (by simp [go_sem, a.e 4 (d 1 rfl), a.e 6 (d 3 rfl), IntWalk.i64_in (xa + xb) (by omega)]) rfl,
  fun f s W c d h i j a => opv rfl rfl (by simp [go_sem, a.e 1 k1_1]) rfl,
  fun f s W c d h i j a => opv rfl rfl (by simp [go_sem, a.e 8 (d 5 rfl), cb br1_0 c 2]) rfl,
  fun f s W c d h i j a => opv rfl rfl (by simp [go_sem, a.e 7 (d 4 rfl), a.e 9 (d 6 rfl), IntWalk.i64_in ((xa + xb) + xc) (by omega)]) rfl,
  fun f s W c d h i j a => opv rfl rfl (by simp [go_sem, a.e 1 k1_1]) rfl,
  fun f s W c d h i j a => opv rfl rfl (by simp [go_sem, a.e 11 (d 8 rfl), cb br1_0 c 3]) rfl,
  fun f s W c d h i j a => opv rfl rfl (by simp [go_sem, a.e 10 (d 7 rfl), a.e 12 (d 9 rfl), IntWalk.i64_in (((xa + xb) + xc) + xd) (by omega)]) rfl,
  fun f s W c d h i j a => opv rfl rfl (by simp [go_sem, a.e 1 k1_1]) rfl,
  fun f s W c d h i j a => opv rfl rfl (by simp [go_sem, a.e 14 (d 11 rfl), cb br1_0 c 4]) rfl,
  fun f s W c d h i j a => opv rfl rfl (by simp [go_sem, a.e 13 (d 10 rfl), a.e 15 (d 12 rfl), IntWalk.i64_in ((((xa + xb) + xc) + xd) + xe) (by omega)]) rfl,
  fun f s W c d h i j a => opv rfl rfl (by simp [go_sem, a.e 16 (d 13 rfl)]) rfl, trivial⟩ ?_
 intro f2 s2 W2 hB2 g2 hg2
 have fB2 := hB2.f fB1
 have z2 := hB2.below.size
 have b2_0 := hB2.b br1_0
 refine hK2 _ _ ?_
 have k2_2 := kt hg2 2 (hB2.is 14)
 refine wp_ret ?_
 refine leave_one (N := 17) (v := .int .i64 ((((xa + xb) + xc) + xd) + xe)) (.inr rfl) Try.results46 rfl k2_2 ?_
 exact ⟨rfl, fB2⟩
set_option maxRecDepth 100000 in
set_option maxHeartbeats 400000 in
theorem off_ok (q : Qu) (bs os cs : Nat) (n : Int) (w : World) (hR : StepR w bs os q) (hq : QuIn q) (gn : 1 ≤ n ∧ n ≤ 100000) :
  Calls Try.prog 47 #[.agg #[.int .i64 q.ar, .int .i64 q.bo, .int .i64 q.wa, .int .i64 q.tl, .int .i64 q.se, .int .i64 q.ru, .int .i64 q.wo, .int .i64 q.pl, .int .i64 q.fr, .int .i64 q.ma, .slice (some ⟨bs, os, none⟩) (1) (cs)], .int .i64 n] w (fun e w' => e = .returned (.int .i64 (offQ q n)) ∧ Below w.heap.size w w') := by
 refine calls_fr Try.func47 Try.ntmps47 rfl rfl fun g hg => ?_
 have k0 : g 0 = .agg #[.int .i64 q.ar, .int .i64 q.bo, .int .i64 q.wa, .int .i64 q.tl, .int .i64 q.se, .int .i64 q.ru, .int .i64 q.wo, .int .i64 q.pl, .int .i64 q.fr, .int .i64 q.ma, .slice (some ⟨bs, os, none⟩) (1) (cs)] := hg 0
 have k1 : g 1 = .int .i64 n := hg 1
 clear hg
 have fB0 : Below w.heap.size w w := Below.refl _ _
 refine wp_seq_k fun K1 hK1 => ?_
 refine region_dk 2 [(2, 0), (4, 1)] [[], []] (rel [bx 0 #[.int .i64 q.ar, .int .i64 q.bo, .int .i64 q.wa, .int .i64 q.tl, .int .i64 q.se, .int .i64 q.ru, .int .i64 q.wo, .int .i64 q.pl, .int .i64 q.fr, .int .i64 q.ma, .slice (some ⟨bs, os, none⟩) (1) (cs)] 86,
   is (.int .i64 0)])
  ⟨bx_k, is_k, trivial⟩
  ⟨fun f s W c d h i j a => opb rfl rfl (by simp [go_sem, a.e 0 k0]),
  fun f s W c d h i j a => opv rfl rfl (by simp [go_sem]) rfl, trivial⟩ ?_
 intro f1 s1 W1 hB1 g1 hg1
 have fB1 := hB1.f fB0
 have z1 := hB1.below.size
 obtain ⟨r1_0, br1_0⟩ := hB1.is 0
 have lr1_0 := hB1.lr 0 br1_0
 refine hK1 _ _ ?_
 have k1_1 := kt hg1 1 k1
 have k1_2 := kt hg1 2 r1_0
 have k1_4 := kt hg1 4 (hB1.is 1)
 refine wp_seq_k fun K2 hK2 => ?_
 refine wp_seq_k fun K3 hK3 => ?_
 refine region_dk 5 [(7, 0), (8, 1), (9, 2), (10, 3), (11, 4)] [[], [0], [0, 1], [0, 1, 2], []] (rel [is (.pointer (some ⟨(s1 0), 0, none⟩)),
   is (.pointer (some ⟨(s1 0), 10, none⟩)),
   is (.slice (some ⟨bs, os, none⟩) (1) (cs)),
   is (.int .i64 1),
   is (.int .i64 0)])
  ⟨is_k, is_k, is_k, is_k, is_k, trivial⟩
  ⟨fun f s W c d h i j a => opv rfl rfl (by simp [go_sem, a.e 2 k1_2]) rfl,
  fun f s W c d h i j a => opv rfl rfl (by simp [go_sem, a.e 7 (d 0 rfl)]) rfl,
  fun f s W c d h i j a => opv rfl rfl (by simp [go_sem, a.e 8 (d 1 rfl), cb br1_0 c 10]) rfl,
  fun f s W c d h i j a => opv rfl rfl (by simp [go_sem, a.e 9 (d 2 rfl)]) rfl,
  fun f s W c d h i j a => opv rfl rfl (by simp [go_sem]) rfl, trivial⟩ ?_
 intro f2 s2 W2 hB2 g2 hg2
 have fB2 := hB2.f fB1
 have z2 := hB2.below.size
 have b2_0 := hB2.b br1_0
 refine hK3 _ _ ?_
 have k2_1 := kt hg2 1 k1_1
 have k2_4 := kt hg2 4 k1_4
 have k2_9 := kt hg2 9 (hB2.is 2)
 have k2_10 := kt hg2 10 (hB2.is 3)
 have k2_11 := kt hg2 11 (hB2.is 4)
 refine wp_block ?_
 refine wp_loop_rounds 2 ?_
 rw [rounds_succ]
 refine wp_seq_k fun K4 hK4 => ?_
 refine region_dk 1 [(12, 0)] [[]] (rel [is (.bool true)])
  ⟨is_k, trivial⟩
  ⟨fun f s W c d h i j a => opv rfl rfl (by simp [go_sem, a.e 11 k2_11, a.e 10 k2_10]) rfl, trivial⟩ ?_
 intro f3 s3 W3 hB3 g3 hg3
 have fB3 := hB3.f fB2
 have z3 := hB3.below.size
 have b3_0 := hB3.b b2_0
 refine hK4 _ _ ?_
 have k3_1 := kt hg3 1 k2_1
 have k3_4 := kt hg3 4 k2_4
 have k3_9 := kt hg3 9 k2_9
 have k3_10 := kt hg3 10 k2_10
 have k3_11 := kt hg3 11 k2_11
 have k3_12 := kt hg3 12 (hB3.is 0)
 refine wp_seq_k fun K5 hK5 => ?_
 refine wp_cond_true ((fr_eval rfl).trans k3_12) ?_
 refine wp_skip ?_
 refine hK5 _ _ ?_
 refine wp_seq_k fun K7 hK7 => ?_
 refine wp_block ?_
 refine wp_seq_k fun K8 hK8 => ?_
 refine region_dk 3 [(13, 0), (14, 1), (6, 2)] [[], [0], [], [0, 1, 2]] (rel [is (.pointer (some ⟨bs, os, none⟩)),
   is (.agg #[.int .i64 q.sf, .int .i64 q.so]),
   bx 2 #[.int .i64 0, .int .i64 0] 82])
  ⟨is_k, is_k, bx_k, trivial⟩
  ⟨fun f s W c d h i j a => opv rfl rfl (by simp [go_sem, a.e 9 k3_9, a.e 11 k3_11]) rfl,
  fun f s W c d h i j a => by have k := below_trans fB3 c; have cu := (hR.below k).2; exact opv rfl rfl (by simp [go_sem, a.e 13 (d 0 rfl), cu.1, cu.2]) rfl,
  fun f s W c d h i j a => opb rfl rfl (by simp [go_sem]), trivial⟩ ?_
 intro f4 s4 W4 hB4 g4 hg4
 have fB4 := hB4.f fB3
 have z4 := hB4.below.size
 have b4_0 := hB4.b b3_0
 obtain ⟨r4_2, br4_2⟩ := hB4.is 2
 have lr4_2 := hB4.lr 2 br4_2
 have k4_1 := kt hg4 1 k3_1
 have k4_4 := kt hg4 4 k3_4
 have k4_9 := kt hg4 9 k3_9
 have k4_10 := kt hg4 10 k3_10
 have k4_11 := kt hg4 11 k3_11
 have k4_12 := kt hg4 12 k3_12
 have k4_14 := kt hg4 14 (hB4.is 1)
 have k4_6 := kt hg4 6 r4_2
 obtain ⟨W5, hW5⟩ : ∃ W', W' = W4.setRow (s4 2) #[.int .i64 q.sf, .int .i64 q.so] := ⟨_, rfl⟩
 refine tail_skip (o := _) rfl ⟨rfl, rfl⟩ (run_seg hW5 (fr_ev k4_6) (fr_ev k4_14) br4_2 rfl rfl rfl rfl) ?_
 obtain ⟨fB5, nb5, ot5, z5⟩ := seg_facts hW5 fB4 br4_2 (by omega)
 clear hW5
 have b5_0 := ot5 _ _ (by omega) b4_0
 refine wpOps_end ?_
 refine hK8 _ _ ?_
 refine wp_seq_k fun K9 hK9 => ?_
 refine region_dk 4 [(15, 0), (16, 1), (17, 2), (18, 3)] [[], [0], [], [0, 1, 2]] (rel [is (.pointer (some ⟨(s4 2), 0, none⟩)),
   is (.int .i64 q.sf),
   is (.int .i64 n),
   is (.bool (decide (q.sf ≤ n)))])
  ⟨is_k, is_k, is_k, is_k, trivial⟩
  ⟨fun f s W c d h i j a => opv rfl rfl (by simp [go_sem, a.e 6 k4_6]) rfl,
  fun f s W c d h i j a => opv rfl rfl (by simp [go_sem, a.e 15 (d 0 rfl), cb nb5 c 0]) rfl,
  fun f s W c d h i j a => opv rfl rfl (by simp [go_sem, a.e 1 k4_1]) rfl,
  fun f s W c d h i j a => opv rfl rfl (by simp [go_sem, a.e 16 (d 1 rfl), a.e 17 (d 2 rfl)]) rfl, trivial⟩ ?_
 intro f6 s6 W6 hB6 g6 hg6
 have fB6 := hB6.f fB5
 have z6 := hB6.below.size
 have b6_0 := hB6.b b5_0
 have b6_1 := hB6.b nb5
 refine hK9 _ _ ?_
 have k6_1 := kt hg6 1 k4_1
 have k6_4 := kt hg6 4 k4_4
 have k6_9 := kt hg6 9 k4_9
 have k6_10 := kt hg6 10 k4_10
 have k6_11 := kt hg6 11 k4_11
 have k6_12 := kt hg6 12 k4_12
 have k6_14 := kt hg6 14 k4_14
 have k6_6 := kt hg6 6 k4_6
 have k6_18 := kt hg6 18 (hB6.is 3)
 refine wp_cond_split (t := decide (q.sf ≤ n)) ((fr_eval rfl).trans k6_18) (fun hc10 => ?_) (fun hc10 => ?_)
 ·
  have hc10' := hc10; try simp only [ba] at hc10'
  have hoff_ : q.sf ≤ n := by omega
  refine region_dk 3 [(19, 0), (20, 1), (4, 2)] [[], [0], [0, 1]] (rel [is (.pointer (some ⟨(s4 2), 1, none⟩)),
   is (.int .i64 q.so),
   is (.int .i64 q.so)])
   ⟨is_k, is_k, is_k, trivial⟩
   ⟨fun f s W c d h i j a => opv rfl rfl (by simp [go_sem, a.e 6 k6_6]) rfl,
  fun f s W c d h i j a => opv rfl rfl (by simp [go_sem, a.e 19 (d 0 rfl), cb b6_1 c 1]) rfl,
  fun f s W c d h i j a => opv rfl rfl (by simp [go_sem, a.e 20 (d 1 rfl)]) rfl, trivial⟩ ?_
  intro f7 s7 W7 hB7 g7 hg7
  have fB7 := hB7.f fB6
  have z7 := hB7.below.size
  have b7_0 := hB7.b b6_0
  have b7_1 := hB7.b b6_1
  refine wpOps_end ?_
  have k7_1 := kt hg7 1 k6_1
  have k7_9 := kt hg7 9 k6_9
  have k7_10 := kt hg7 10 k6_10
  have k7_11 := kt hg7 11 k6_11
  have k7_12 := kt hg7 12 k6_12
  have k7_14 := kt hg7 14 k6_14
  have k7_6 := kt hg7 6 k6_6
  have k7_18 := kt hg7 18 k6_18
  have k7_4 := kt hg7 4 (hB7.is 2)
  refine inBlock_normal ?_
  refine hK7 _ _ ?_
  refine region_dk 2 [(21, 0), (11, 1)] [[], [0]] (rel [is (.int .i64 1),
   is (.int .i64 1)])
   ⟨is_k, is_k, trivial⟩
   ⟨fun f s W c d h i j a => opv rfl rfl (by simp [go_sem, a.e 11 ((i 1 11 rfl rfl).trans k7_11), IntWalk.i64_in (1) (by omega)]) rfl,
  fun f s W c d h i j a => opv rfl rfl (by simp [go_sem, a.e 21 (d 0 rfl)]) rfl, trivial⟩ ?_
  intro f8 s8 W8 hB8 g8 hg8
  have fB8 := hB8.f fB7
  have z8 := hB8.below.size
  have b8_0 := hB8.b b7_0
  have b8_1 := hB8.b b7_1
  refine wpOps_end ?_
  have k8_1 := kt hg8 1 k7_1
  have k8_9 := kt hg8 9 k7_9
  have k8_10 := kt hg8 10 k7_10
  have k8_12 := kt hg8 12 k7_12
  have k8_14 := kt hg8 14 k7_14
  have k8_6 := kt hg8 6 k7_6
  have k8_18 := kt hg8 18 k7_18
  have k8_4 := kt hg8 4 k7_4
  have k8_11 := kt hg8 11 (hB8.is 1)
  refine then_normal ?_
  rw [rounds_succ]
  refine wp_seq_k fun K11 hK11 => ?_
  refine region_dk 1 [(12, 0)] [[]] (rel [is (.bool false)])
   ⟨is_k, trivial⟩
   ⟨fun f s W c d h i j a => opv rfl rfl (by simp [go_sem, a.e 11 k8_11, a.e 10 k8_10]) rfl, trivial⟩ ?_
  intro f9 s9 W9 hB9 g9 hg9
  have fB9 := hB9.f fB8
  have z9 := hB9.below.size
  have b9_0 := hB9.b b8_0
  have b9_1 := hB9.b b8_1
  refine hK11 _ _ ?_
  have k9_1 := kt hg9 1 k8_1
  have k9_9 := kt hg9 9 k8_9
  have k9_10 := kt hg9 10 k8_10
  have k9_14 := kt hg9 14 k8_14
  have k9_6 := kt hg9 6 k8_6
  have k9_18 := kt hg9 18 k8_18
  have k9_4 := kt hg9 4 k8_4
  have k9_11 := kt hg9 11 k8_11
  have k9_12 := kt hg9 12 (hB9.is 0)
  refine wp_seq_k fun K12 hK12 => ?_
  refine wp_cond_false ((fr_eval rfl).trans k9_12) ?_
  refine wp_exit ?_
  refine then_exit ?_
  refine then_exit ?_
  refine inBlock_at ?_
  refine hK2 _ _ ?_
  refine wp_seq_k fun K14 hK14 => ?_
  refine region_dk 2 [(22, 0), (4, 1)] [[], [0]] (rel [is (.int .i64 q.so),
   is (.int .i64 q.so)])
   ⟨is_k, is_k, trivial⟩
   ⟨fun f s W c d h i j a => opv rfl rfl (by simp [go_sem, a.e 4 ((i 1 4 rfl rfl).trans k9_4)]) rfl,
  fun f s W c d h i j a => opv rfl rfl (by simp [go_sem, a.e 22 (d 0 rfl)]) rfl, trivial⟩ ?_
  intro f10 s10 W10 hB10 g10 hg10
  have fB10 := hB10.f fB9
  have z10 := hB10.below.size
  have b10_0 := hB10.b b9_0
  have b10_1 := hB10.b b9_1
  refine hK14 _ _ ?_
  have k10_4 := kt hg10 4 (hB10.is 1)
  refine wp_ret ?_
  refine leave_one (N := 23) (v := .int .i64 q.so) (.inr rfl) Try.results47 rfl k10_4 ?_
  exact ⟨by rw [show offQ q n = q.so from if_pos hoff_], fB10⟩
 ·
  have hc10' := hc10; try simp only [ba] at hc10'
  have hoff_ : ¬ q.sf ≤ n := by omega
  refine wp_skip ?_
  refine inBlock_normal ?_
  refine hK7 _ _ ?_
  refine region_dk 2 [(21, 0), (11, 1)] [[], [0]] (rel [is (.int .i64 1),
   is (.int .i64 1)])
   ⟨is_k, is_k, trivial⟩
   ⟨fun f s W c d h i j a => opv rfl rfl (by simp [go_sem, a.e 11 ((i 1 11 rfl rfl).trans k6_11), IntWalk.i64_in (1) (by omega)]) rfl,
  fun f s W c d h i j a => opv rfl rfl (by simp [go_sem, a.e 21 (d 0 rfl)]) rfl, trivial⟩ ?_
  intro f11 s11 W11 hB11 g11 hg11
  have fB11 := hB11.f fB6
  have z11 := hB11.below.size
  have b11_0 := hB11.b b6_0
  have b11_1 := hB11.b b6_1
  refine wpOps_end ?_
  have k11_1 := kt hg11 1 k6_1
  have k11_4 := kt hg11 4 k6_4
  have k11_9 := kt hg11 9 k6_9
  have k11_10 := kt hg11 10 k6_10
  have k11_12 := kt hg11 12 k6_12
  have k11_14 := kt hg11 14 k6_14
  have k11_6 := kt hg11 6 k6_6
  have k11_18 := kt hg11 18 k6_18
  have k11_11 := kt hg11 11 (hB11.is 1)
  refine then_normal ?_
  rw [rounds_succ]
  refine wp_seq_k fun K15 hK15 => ?_
  refine region_dk 1 [(12, 0)] [[]] (rel [is (.bool false)])
   ⟨is_k, trivial⟩
   ⟨fun f s W c d h i j a => opv rfl rfl (by simp [go_sem, a.e 11 k11_11, a.e 10 k11_10]) rfl, trivial⟩ ?_
  intro f12 s12 W12 hB12 g12 hg12
  have fB12 := hB12.f fB11
  have z12 := hB12.below.size
  have b12_0 := hB12.b b11_0
  have b12_1 := hB12.b b11_1
  refine hK15 _ _ ?_
  have k12_1 := kt hg12 1 k11_1
  have k12_4 := kt hg12 4 k11_4
  have k12_9 := kt hg12 9 k11_9
  have k12_10 := kt hg12 10 k11_10
  have k12_14 := kt hg12 14 k11_14
  have k12_6 := kt hg12 6 k11_6
  have k12_18 := kt hg12 18 k11_18
  have k12_11 := kt hg12 11 k11_11
  have k12_12 := kt hg12 12 (hB12.is 0)
  refine wp_seq_k fun K16 hK16 => ?_
  refine wp_cond_false ((fr_eval rfl).trans k12_12) ?_
  refine wp_exit ?_
  refine then_exit ?_
  refine then_exit ?_
  refine inBlock_at ?_
  refine hK2 _ _ ?_
  refine wp_seq_k fun K18 hK18 => ?_
  refine region_dk 2 [(22, 0), (4, 1)] [[], [0]] (rel [is (.int .i64 0),
   is (.int .i64 0)])
   ⟨is_k, is_k, trivial⟩
   ⟨fun f s W c d h i j a => opv rfl rfl (by simp [go_sem, a.e 4 ((i 1 4 rfl rfl).trans k12_4)]) rfl,
  fun f s W c d h i j a => opv rfl rfl (by simp [go_sem, a.e 22 (d 0 rfl)]) rfl, trivial⟩ ?_
  intro f13 s13 W13 hB13 g13 hg13
  have fB13 := hB13.f fB12
  have z13 := hB13.below.size
  have b13_0 := hB13.b b12_0
  have b13_1 := hB13.b b12_1
  refine hK18 _ _ ?_
  have k13_4 := kt hg13 4 (hB13.is 1)
  refine wp_ret ?_
  refine leave_one (N := 23) (v := .int .i64 0) (.inr rfl) Try.results47 rfl k13_4 ?_
  exact ⟨by rw [show offQ q n = 0 from if_neg hoff_], fB13⟩
set_option maxRecDepth 100000 in
set_option maxHeartbeats 8000000 in
theorem price_ok (q : Qu) (bs os cs : Nat) (n : Int) (w : World) (hR : StepR w bs os q) (hq : QuIn q) (gn : 1 ≤ n ∧ n ≤ 100000) :
  Calls Try.prog 27 #[.agg #[.int .i64 q.ar, .int .i64 q.bo, .int .i64 q.wa, .int .i64 q.tl, .int .i64 q.se, .int .i64 q.ru, .int .i64 q.wo, .int .i64 q.pl, .int .i64 q.fr, .int .i64 q.ma, .slice (some ⟨bs, os, none⟩) (1) (cs)], .int .i64 n] w (fun e w' => e = .returned (.int .i64 (priceQ q n)) ∧ Below w.heap.size w w') := by
 have gq_1 := hq.ar
 have gq_2 := hq.bo
 have gq_3 := hq.wa
 have gq_4 := hq.tl
 have gq_5 := hq.se
 have gq_6 := hq.ru
 have gq_7 := hq.wo
 have gq_8 := hq.pl
 have gq_9 := hq.fr
 have gq_10 := hq.ma
 have hN := quNo hq gn
 have hb1_ := hN.b1
 have hb2_ := hN.b2
 have hb3_ := hN.b3
 have hbd_ := hN.bd
 have hur_ := hN.ur
 have hst_ := hN.st
 have hwn_ := hN.wn
 have hwk_ := hN.wk
 have hup_ := hN.up
 have hfr_ := hN.fr
 have hco_ := hN.co
 have hof_ := hN.of
 have hp1_ := hN.p1
 have hp2_ := hN.p2
 have hpr_ := hN.pr
 refine calls_fr Try.func27 Try.ntmps27 rfl rfl fun g hg => ?_
 have k0 : g 0 = .agg #[.int .i64 q.ar, .int .i64 q.bo, .int .i64 q.wa, .int .i64 q.tl, .int .i64 q.se, .int .i64 q.ru, .int .i64 q.wo, .int .i64 q.pl, .int .i64 q.fr, .int .i64 q.ma, .slice (some ⟨bs, os, none⟩) (1) (cs)] := hg 0
 have k1 : g 1 = .int .i64 n := hg 1
 clear hg
 have fB0 : Below w.heap.size w w := Below.refl _ _
 refine wp_seq_k fun K1 hK1 => ?_
 refine region_dk 2 [(2, 0), (4, 1)] [[], []] (rel [bx 0 #[.int .i64 q.ar, .int .i64 q.bo, .int .i64 q.wa, .int .i64 q.tl, .int .i64 q.se, .int .i64 q.ru, .int .i64 q.wo, .int .i64 q.pl, .int .i64 q.fr, .int .i64 q.ma, .slice (some ⟨bs, os, none⟩) (1) (cs)] 86,
   is (.int .i64 0)])
  ⟨bx_k, is_k, trivial⟩
  ⟨fun f s W c d h i j a => opb rfl rfl (by simp [go_sem, a.e 0 k0]),
  fun f s W c d h i j a => opv rfl rfl (by simp [go_sem]) rfl, trivial⟩ ?_
 intro f1 s1 W1 hB1 g1 hg1
 have fB1 := hB1.f fB0
 have z1 := hB1.below.size
 obtain ⟨r1_0, br1_0⟩ := hB1.is 0
 have lr1_0 := hB1.lr 0 br1_0
 refine hK1 _ _ ?_
 have k1_1 := kt hg1 1 k1
 have k1_2 := kt hg1 2 r1_0
 have k1_4 := kt hg1 4 (hB1.is 1)
 refine wp_seq_k fun K2 hK2 => ?_
 refine region_dk 16 [(5, 0), (6, 1), (7, 2), (8, 3), (9, 4), (10, 5), (11, 6), (12, 7), (13, 8), (14, 9), (15, 10), (16, 11), (17, 12), (18, 13), (19, 14), (4, 15)] [[], [], [0, 1], [0, 1, 2], [], [4], [4, 5], [4, 5, 6], [0, 1, 2, 3, 4, 5, 6, 7], [], [], [0, 1, 2, 3, 9, 10], [0, 1, 2, 3, 9, 10, 11], [0, 1, 2, 3, 4, 5, 6, 7, 8, 9, 10, 11, 12], [0, 1, 2, 3, 4, 5, 6, 7, 8, 9, 10, 11, 12, 13], [0, 1, 2, 3, 4, 5, 6, 7, 8, 9, 10, 11, 12, 13, 14]] (rel [is (.agg #[.int .i64 q.ar, .int .i64 q.bo, .int .i64 q.wa, .int .i64 q.tl, .int .i64 q.se, .int .i64 q.ru, .int .i64 q.wo, .int .i64 q.pl, .int .i64 q.fr, .int .i64 q.ma, .slice (some ⟨bs, os, none⟩) (1) (cs)]),
   is (.int .i64 n),
   is (.agg #[.int .i64 (boardQ q n), .int .i64 q.tl, .int .i64 (setQ q n), .int .i64 (workQ q n), .int .i64 (frQ q n)]),
   is (.int .i64 ((costQ q n))),
   is (.pointer (some ⟨(s1 0), 0, none⟩)),
   is (.pointer (some ⟨(s1 0), 9, none⟩)),
   is (.int .i64 q.ma),
   is (.int .i64 (1000 + q.ma)),
   is (.int .i64 ((costQ q n) * (1000 + q.ma))),
   is (.agg #[.int .i64 q.ar, .int .i64 q.bo, .int .i64 q.wa, .int .i64 q.tl, .int .i64 q.se, .int .i64 q.ru, .int .i64 q.wo, .int .i64 q.pl, .int .i64 q.fr, .int .i64 q.ma, .slice (some ⟨bs, os, none⟩) (1) (cs)]),
   is (.int .i64 n),
   is (.int .i64 ((offQ q n))),
   is (.int .i64 (1000 - (offQ q n))),
   is (.int .i64 (((costQ q n) * (1000 + q.ma)) * (1000 - (offQ q n)))),
   is (.int .i64 ((priceQ q n))),
   is (.int .i64 ((priceQ q n)))])
  ⟨is_k, is_k, is_k, is_k, is_k, is_k, is_k, is_k, is_k, is_k, is_k, is_k, is_k, is_k, is_k, is_k, trivial⟩
  ⟨fun f s W c d h i j a => opl rfl rfl rfl (a.v 2 k1_2) (blk_below br1_0 c) Try.underlying86 rfl (by kernel_rfl) rfl,
  fun f s W c d h i j a => opv rfl rfl (by simp [go_sem, a.e 1 k1_1]) rfl,
  fun f s W c d h i j a => by have k := below_trans fB1 c; exact opc rfl rfl (by simp [go_sem, a.e 5 (d 0 rfl), a.e 6 (d 1 rfl)]) (parts_ok q bs os cs n W (hR.below k) hq gn),
  fun f s W c d h i j a => opc rfl rfl (by simp [go_sem, a.e 7 (d 2 rfl)]) (cost_ok (boardQ q n) q.tl (setQ q n) (workQ q n) (frQ q n) W (by omega) (by omega) (by omega) (by omega) (by omega)),
  fun f s W c d h i j a => opv rfl rfl (by simp [go_sem, a.e 2 k1_2]) rfl,
  fun f s W c d h i j a => opv rfl rfl (by simp [go_sem, a.e 9 (d 4 rfl)]) rfl,
  fun f s W c d h i j a => opv rfl rfl (by simp [go_sem, a.e 10 (d 5 rfl), cb br1_0 c 9]) rfl,
  fun f s W c d h i j a => opv rfl rfl (by simp [go_sem, a.e 11 (d 6 rfl), IntWalk.i64_in (1000 + q.ma) (by omega)]) rfl,
  fun f s W c d h i j a => opv rfl rfl (by simp [go_sem, a.e 8 (d 3 rfl), a.e 12 (d 7 rfl), IntWalk.i64_in ((costQ q n) * (1000 + q.ma)) (by show -9223372036854775808 ≤ p1Q q n ∧ p1Q q n ≤ 9223372036854775807; omega)]) rfl,
  fun f s W c d h i j a => opl rfl rfl rfl (a.v 2 k1_2) (blk_below br1_0 c) Try.underlying86 rfl (by kernel_rfl) rfl,
  fun f s W c d h i j a => opv rfl rfl (by simp [go_sem, a.e 1 k1_1]) rfl,
  fun f s W c d h i j a => by have k := below_trans fB1 c; exact opc rfl rfl (by simp [go_sem, a.e 14 (d 9 rfl), a.e 15 (d 10 rfl)]) (off_ok q bs os cs n W (hR.below k) hq gn),
  fun f s W c d h i j a => opv rfl rfl (by simp [go_sem, a.e 16 (d 11 rfl), IntWalk.i64_in (1000 - (offQ q n)) (by omega)]) rfl,
  fun f s W c d h i j a => opv rfl rfl (by simp [go_sem, a.e 13 (d 8 rfl), a.e 17 (d 12 rfl), IntWalk.i64_in (((costQ q n) * (1000 + q.ma)) * (1000 - (offQ q n))) (by show -9223372036854775808 ≤ p2Q q n ∧ p2Q q n ≤ 9223372036854775807; omega)]) rfl,
  fun f s W c d h i j a => opc rfl rfl (by simp [go_sem, a.e 18 (d 13 rfl)]) (prUp_any (((costQ q n) * (1000 + q.ma)) * (1000 - (offQ q n))) 1000000 W (by show 0 ≤ p2Q q n ∧ p2Q q n ≤ _; omega) (by omega) (by show 0 ≤ priceQ q n ∧ priceQ q n ≤ _; omega)),
  fun f s W c d h i j a => opv rfl rfl (by simp [go_sem, a.e 19 (d 14 rfl)]) rfl, trivial⟩ ?_
 intro f2 s2 W2 hB2 g2 hg2
 have fB2 := hB2.f fB1
 have z2 := hB2.below.size
 have b2_0 := hB2.b br1_0
 refine hK2 _ _ ?_
 have k2_4 := kt hg2 4 (hB2.is 15)
 refine wp_ret ?_
 refine leave_one (N := 20) (v := .int .i64 ((priceQ q n))) (.inr rfl) Try.results27 rfl k2_4 ?_
 exact ⟨rfl, fB2⟩
set_option maxRecDepth 100000 in
set_option maxHeartbeats 8000000 in
theorem Quote_ok (q : Qu) (bs os cs : Nat) (n : Int) (w : World) (hR : StepR w bs os q) (hq : QuIn q) (gn : 1 ≤ n ∧ n ≤ 100000) :
  Calls Try.prog 8 #[.agg #[.int .i64 q.ar, .int .i64 q.bo, .int .i64 q.wa, .int .i64 q.tl, .int .i64 q.se, .int .i64 q.ru, .int .i64 q.wo, .int .i64 q.pl, .int .i64 q.fr, .int .i64 q.ma, .slice (some ⟨bs, os, none⟩) (1) (cs)], .int .i64 n] w (fun e w' => e = .returned (.tuple #[.agg #[.int .i64 (boardQ q n), .int .i64 q.tl, .int .i64 (setQ q n), .int .i64 (workQ q n), .int .i64 (frQ q n)], .int .i64 (priceQ q n), .int .i64 0]) ∧ Below w.heap.size w w') := by
 refine calls_fr Try.func8 Try.ntmps8 rfl rfl fun g hg => ?_
 have k0 : g 0 = .agg #[.int .i64 q.ar, .int .i64 q.bo, .int .i64 q.wa, .int .i64 q.tl, .int .i64 q.se, .int .i64 q.ru, .int .i64 q.wo, .int .i64 q.pl, .int .i64 q.fr, .int .i64 q.ma, .slice (some ⟨bs, os, none⟩) (1) (cs)] := hg 0
 have k1 : g 1 = .int .i64 n := hg 1
 clear hg
 have fB0 : Below w.heap.size w w := Below.refl _ _
 refine wp_seq_k fun K1 hK1 => ?_
 refine region_dk 4 [(2, 0), (4, 1), (5, 2), (6, 3)] [[], [], [], [2]] (rel [bx 0 #[.int .i64 q.ar, .int .i64 q.bo, .int .i64 q.wa, .int .i64 q.tl, .int .i64 q.se, .int .i64 q.ru, .int .i64 q.wo, .int .i64 q.pl, .int .i64 q.fr, .int .i64 q.ma, .slice (some ⟨bs, os, none⟩) (1) (cs)] 32,
   bx 1 #[.int .i64 0, .int .i64 0, .int .i64 0, .int .i64 0, .int .i64 0] 44,
   is (.int .i64 0),
   is (.int .i64 0)])
  ⟨bx_k, bx_k, is_k, is_k, trivial⟩
  ⟨fun f s W c d h i j a => opb rfl rfl (by simp [go_sem, a.e 0 k0]),
  fun f s W c d h i j a => opb rfl rfl (by simp [go_sem]),
  fun f s W c d h i j a => opv rfl rfl (by simp [go_sem]) rfl,
  fun f s W c d h i j a => opv rfl rfl (by simp [go_sem]) rfl, trivial⟩ ?_
 intro f1 s1 W1 hB1 g1 hg1
 have fB1 := hB1.f fB0
 have z1 := hB1.below.size
 obtain ⟨r1_0, br1_0⟩ := hB1.is 0
 have lr1_0 := hB1.lr 0 br1_0
 obtain ⟨r1_1, br1_1⟩ := hB1.is 1
 have lr1_1 := hB1.lr 1 br1_1
 have ne1_0_1 := hB1.nb 0 1
 refine hK1 _ _ ?_
 have k1_1 := kt hg1 1 k1
 have k1_2 := kt hg1 2 r1_0
 have k1_4 := kt hg1 4 r1_1
 have k1_5 := kt hg1 5 (hB1.is 2)
 have k1_6 := kt hg1 6 (hB1.is 3)
 refine wp_seq_k fun K2 hK2 => ?_
 refine region_dk 7 [(9, 0), (10, 1), (11, 2), (8, 3), (12, 4), (13, 5), (7, 6), (6, 8)] [[], [], [0, 1], [0, 1, 2], [0, 1, 2, 3], [0, 1, 2, 3], [], [0, 1, 2, 3, 4, 6], [0, 1, 2, 3, 4, 5, 6, 7]] (rel [is (.agg #[.int .i64 q.ar, .int .i64 q.bo, .int .i64 q.wa, .int .i64 q.tl, .int .i64 q.se, .int .i64 q.ru, .int .i64 q.wo, .int .i64 q.pl, .int .i64 q.fr, .int .i64 q.ma, .slice (some ⟨bs, os, none⟩) (1) (cs)]),
   is (.int .i64 n),
   is (.tuple #[.agg #[.int .i64 q.ar, .int .i64 q.bo, .int .i64 q.wa, .int .i64 q.tl, .int .i64 q.se, .int .i64 q.ru, .int .i64 q.wo, .int .i64 q.pl, .int .i64 q.fr, .int .i64 q.ma, .slice (some ⟨bs, os, none⟩) (1) (cs)], .int .i64 0]),
   is (.tuple #[.agg #[.int .i64 q.ar, .int .i64 q.bo, .int .i64 q.wa, .int .i64 q.tl, .int .i64 q.se, .int .i64 q.ru, .int .i64 q.wo, .int .i64 q.pl, .int .i64 q.fr, .int .i64 q.ma, .slice (some ⟨bs, os, none⟩) (1) (cs)], .int .i64 0]),
   is (.agg #[.int .i64 q.ar, .int .i64 q.bo, .int .i64 q.wa, .int .i64 q.tl, .int .i64 q.se, .int .i64 q.ru, .int .i64 q.wo, .int .i64 q.pl, .int .i64 q.fr, .int .i64 q.ma, .slice (some ⟨bs, os, none⟩) (1) (cs)]),
   is (.int .i64 0),
   bx 6 #[.int .i64 0, .int .i64 0, .int .i64 0, .int .i64 0, .int .i64 0, .int .i64 0, .int .i64 0, .int .i64 0, .int .i64 0, .int .i64 0, .slice (none) (0) (0)] 86])
  ⟨is_k, is_k, is_k, is_k, is_k, is_k, bx_k, trivial⟩
  ⟨fun f s W c d h i j a => opl rfl rfl rfl (a.v 2 k1_2) (blk_below br1_0 c) Try.underlying32 rfl (by kernel_rfl) rfl,
  fun f s W c d h i j a => opv rfl rfl (by simp [go_sem, a.e 1 k1_1]) rfl,
  fun f s W c d h i j a => by have k := below_trans fB1 c; exact opc rfl rfl (by simp [go_sem, a.e 9 (d 0 rfl), a.e 10 (d 1 rfl)]) (openCount_ok q bs os cs n W (hR.below k) hq gn),
  fun f s W c d h i j a => opv rfl rfl (by simp [go_sem, a.e 11 (d 2 rfl)]) rfl,
  fun f s W c d h i j a => opv rfl rfl (by simp [go_sem, a.e 8 (d 3 rfl)]) rfl,
  fun f s W c d h i j a => opv rfl rfl (by simp [go_sem, a.e 8 (d 3 rfl)]) rfl,
  fun f s W c d h i j a => opb rfl rfl (by simp [go_sem]), trivial⟩ ?_
 intro f2 s2 W2 hB2 g2 hg2
 have fB2 := hB2.f fB1
 have z2 := hB2.below.size
 have b2_0 := hB2.b br1_0
 have b2_1 := hB2.b br1_1
 obtain ⟨r2_6, br2_6⟩ := hB2.is 6
 have lr2_6 := hB2.lr 6 br2_6
 have k2_1 := kt hg2 1 k1_1
 have k2_4 := kt hg2 4 k1_4
 have k2_5 := kt hg2 5 k1_5
 have k2_12 := kt hg2 12 (hB2.is 4)
 have k2_13 := kt hg2 13 (hB2.is 5)
 have k2_7 := kt hg2 7 r2_6
 obtain ⟨W3, hW3⟩ : ∃ W', W' = W2.setRow (s2 6) #[.int .i64 q.ar, .int .i64 q.bo, .int .i64 q.wa, .int .i64 q.tl, .int .i64 q.se, .int .i64 q.ru, .int .i64 q.wo, .int .i64 q.pl, .int .i64 q.fr, .int .i64 q.ma, .slice (some ⟨bs, os, none⟩) (1) (cs)] := ⟨_, rfl⟩
 refine tail_skip (o := _) rfl ⟨rfl, rfl⟩ (run_seg hW3 (fr_ev k2_7) (fr_ev k2_12) br2_6 rfl rfl rfl rfl) ?_
 obtain ⟨fB3, nb3, ot3, z3⟩ := seg_facts hW3 fB2 br2_6 (by omega)
 clear hW3
 have b3_0 := ot3 _ _ (by omega) b2_0
 have b3_1 := ot3 _ _ (by omega) b2_1
 refine tail_value (o := _) rfl rfl rfl (v := .int .i64 0) (by simp [go_sem, frv 24 k2_13]) ?_
 generalize hg4 : upd g2 6 (.int .i64 0) = g4
 have k4_1 := ku hg4 1 k2_1
 have k4_4 := ku hg4 4 k2_4
 have k4_5 := ku hg4 5 k2_5
 have k4_7 := ku hg4 7 k2_7
 have k4_6 := kt hg4 6 (upd_same _ _ _)
 refine wpOps_end ?_
 refine hK2 _ _ ?_
 refine wp_seq_k fun K3 hK3 => ?_
 refine wp_seq_k fun K4 hK4 => ?_
 refine region_dk 2 [(14, 0), (15, 1)] [[], [0]] (rel [is (.int .i64 0),
   is (.bool false)])
  ⟨is_k, is_k, trivial⟩
  ⟨fun f s W c d h i j a => opv rfl rfl (by simp [go_sem, a.e 6 k4_6]) rfl,
  fun f s W c d h i j a => opv rfl rfl (by simp [go_sem, a.e 14 (d 0 rfl)]) rfl, trivial⟩ ?_
 intro f5 s5 W5 hB5 g5 hg5
 have fB5 := hB5.f fB3
 have z5 := hB5.below.size
 have b5_0 := hB5.b b3_0
 have b5_1 := hB5.b b3_1
 have b5_2 := hB5.b nb3
 refine hK4 _ _ ?_
 have k5_1 := kt hg5 1 k4_1
 have k5_4 := kt hg5 4 k4_4
 have k5_5 := kt hg5 5 k4_5
 have k5_7 := kt hg5 7 k4_7
 have k5_6 := kt hg5 6 k4_6
 have k5_15 := kt hg5 15 (hB5.is 1)
 refine wp_cond_false ((fr_eval rfl).trans k5_15) ?_
 refine wp_skip ?_
 refine hK3 _ _ ?_
 refine wp_seq_k fun K6 hK6 => ?_
 refine region_dk 6 [(18, 0), (19, 1), (20, 2), (21, 3), (22, 4), (23, 5), (5, 7), (6, 8)] [[], [], [0, 1], [], [], [0, 1, 2, 3, 4], [0, 1, 2, 3, 4, 5], [0, 1, 2, 3, 4, 5, 6], [0, 1, 2, 3, 4, 5, 6, 7]] (rel [is (.agg #[.int .i64 q.ar, .int .i64 q.bo, .int .i64 q.wa, .int .i64 q.tl, .int .i64 q.se, .int .i64 q.ru, .int .i64 q.wo, .int .i64 q.pl, .int .i64 q.fr, .int .i64 q.ma, .slice (some ⟨bs, os, none⟩) (1) (cs)]),
   is (.int .i64 n),
   is (.agg #[.int .i64 (boardQ q n), .int .i64 q.tl, .int .i64 (setQ q n), .int .i64 (workQ q n), .int .i64 (frQ q n)]),
   is (.agg #[.int .i64 q.ar, .int .i64 q.bo, .int .i64 q.wa, .int .i64 q.tl, .int .i64 q.se, .int .i64 q.ru, .int .i64 q.wo, .int .i64 q.pl, .int .i64 q.fr, .int .i64 q.ma, .slice (some ⟨bs, os, none⟩) (1) (cs)]),
   is (.int .i64 n),
   is (.int .i64 ((priceQ q n)))])
  ⟨is_k, is_k, is_k, is_k, is_k, is_k, trivial⟩
  ⟨fun f s W c d h i j a => opl rfl rfl rfl (a.v 7 k5_7) (blk_below b5_2 c) Try.underlying86 rfl (by kernel_rfl) rfl,
  fun f s W c d h i j a => opv rfl rfl (by simp [go_sem, a.e 1 k5_1]) rfl,
  fun f s W c d h i j a => by have k := below_trans fB5 c; exact opc rfl rfl (by simp [go_sem, a.e 18 (d 0 rfl), a.e 19 (d 1 rfl)]) (parts_ok q bs os cs n W (hR.below k) hq gn),
  fun f s W c d h i j a => opl rfl rfl rfl (a.v 7 k5_7) (blk_below b5_2 c) Try.underlying86 rfl (by kernel_rfl) rfl,
  fun f s W c d h i j a => opv rfl rfl (by simp [go_sem, a.e 1 k5_1]) rfl,
  fun f s W c d h i j a => by have k := below_trans fB5 c; exact opc rfl rfl (by simp [go_sem, a.e 21 (d 3 rfl), a.e 22 (d 4 rfl)]) (price_ok q bs os cs n W (hR.below k) hq gn), trivial⟩ ?_
 intro f6 s6 W6 hB6 g6 hg6
 have fB6 := hB6.f fB5
 have z6 := hB6.below.size
 have b6_0 := hB6.b b5_0
 have b6_1 := hB6.b b5_1
 have b6_2 := hB6.b b5_2
 have k6_4 := kt hg6 4 k5_4
 have k6_20 := kt hg6 20 (hB6.is 2)
 have k6_23 := kt hg6 23 (hB6.is 5)
 obtain ⟨W7, hW7⟩ : ∃ W', W' = W6.setRow (s1 1) #[.int .i64 (boardQ q n), .int .i64 q.tl, .int .i64 (setQ q n), .int .i64 (workQ q n), .int .i64 (frQ q n)] := ⟨_, rfl⟩
 refine tail_skip (o := _) rfl ⟨rfl, rfl⟩ (run_seg hW7 (fr_ev k6_4) (fr_ev k6_20) b6_1 rfl rfl rfl rfl) ?_
 obtain ⟨fB7, nb7, ot7, z7⟩ := seg_facts hW7 fB6 b6_1 (by omega)
 clear hW7
 have b7_0 := ot7 _ _ (by omega) b6_0
 have b7_2 := ot7 _ _ (by omega) b6_2
 refine tail_value (o := _) rfl rfl rfl (v := .int .i64 ((priceQ q n))) (by simp [go_sem, frv 24 k6_23]) ?_
 generalize hg8 : upd g6 5 (.int .i64 ((priceQ q n))) = g8
 have k8_4 := ku hg8 4 k6_4
 have k8_5 := kt hg8 5 (upd_same _ _ _)
 refine tail_value (o := _) rfl rfl rfl (v := .int .i64 0) (by simp [go_sem]) ?_
 generalize hg9 : upd g8 6 (.int .i64 0) = g9
 have k9_4 := ku hg9 4 k8_4
 have k9_5 := ku hg9 5 k8_5
 have k9_6 := kt hg9 6 (upd_same _ _ _)
 refine wpOps_end ?_
 refine hK6 _ _ ?_
 refine wp_ret ?_
 refine leave_gen (v := .tuple #[.agg #[.int .i64 (boardQ q n), .int .i64 q.tl, .int .i64 (setQ q n), .int .i64 (workQ q n), .int .i64 (frQ q n)], .int .i64 ((priceQ q n)), .int .i64 0]) (.inr rfl) (by simp [results, Try.results8, go_sem, frv 24 k9_4, cl nb7 0, cl nb7 1, cl nb7 2, cl nb7 3, cl nb7 4, frv 24 k9_5, frv 24 k9_6]) ?_
 exact ⟨rfl, fB7⟩
end Go.Proofs.Ytolnpbpeifpbjaa
