/- Part of the proof: what the claim leans on. -/
import Derived.Test.YtcgccflcjejlhaaVAA
import Derived.Test.YtcgccflcjejlhaaVAC
import Derived.Test.YtcgccflcjejlhaaVAD
set_option maxHeartbeats 8000000
set_option maxRecDepth 100000
set_option linter.unusedSimpArgs false
set_option linter.unusedVariables false
namespace Go.Proofs.Ytcgccflcjejlhaa
open Go.RowKit
structure Tp where
  wide : Int
  tlo : Int
  thi : Int
  webs : Int
structure TpIn (p : Tp) : Prop where
  wide : 1 ≤ p.wide ∧ p.wide ≤ 3000
  trim : 0 ≤ p.tlo ∧ p.tlo ≤ p.thi ∧ p.thi ≤ 3000
  webs : 1 ≤ p.webs ∧ p.webs ≤ 4
structure To where
  wd : Int
  lo : Int
  hi : Int
structure ToIn (o : To) : Prop where
  wd : 1 ≤ o.wd ∧ o.wd ≤ 3000
  need : 0 ≤ o.lo ∧ o.lo ≤ o.hi ∧ o.hi ≤ 100
def OrdR (W : World) (b o n : Nat) (os : Nat → To) : Prop := b < W.heap.size ∧ ∀ i, i < n → W.cell? ⟨b, o + i * 3, none⟩ = some (.int .i64 (os i).wd) ∧ W.cell? ⟨b, o + i * 3 + 1, none⟩ = some (.int .i64 (os i).lo) ∧ W.cell? ⟨b, o + i * 3 + 2, none⟩ = some (.int .i64 (os i).hi)
theorem OrdR.below {W W' : World} {b o n : Nat} {os : Nat → To} (h : OrdR W b o n os) (hb : Below W.heap.size W W') : OrdR W' b o n os :=
  ⟨Nat.lt_of_lt_of_le h.1 hb.size, fun i hi => ⟨(hb.cell (p := ⟨b, o + i * 3, none⟩) h.1).trans (h.2 i hi).1, (hb.cell (p := ⟨b, o + i * 3 + 1, none⟩) h.1).trans (h.2 i hi).2.1, (hb.cell (p := ⟨b, o + i * 3 + 2, none⟩) h.1).trans (h.2 i hi).2.2⟩⟩
def elT (xs : List Int) (k : Nat) : Int := xs.getD k 0
theorem Ii.open {w : World} {a : Option Addr} {n c : Nat} {xs : List Int} (h : Ii w a n c xs) : ∃ b o, 0 < n → a = some ⟨b, o, none⟩ ∧ ∀ W, Below w.heap.size w W → ∀ i, i < n → W.cell? ⟨b, o + i, none⟩ = some (.int .i64 (elT xs i)) := by
  have hn : n = xs.length := h.1
  by_cases h0 : 0 < xs.length
  · obtain ⟨b, o, e, hlt, hc⟩ := h.at h0
    exact ⟨b, o, fun _ => ⟨e, fun W hb i hi => (hb.cell (p := ⟨b, o + i, none⟩) hlt).trans (hc i (by omega))⟩⟩
  · exact ⟨0, 0, fun h => by omega⟩
theorem getD_bd {xs : List Int} {m : Int} (h : ∀ x ∈ xs, 0 ≤ x ∧ x ≤ m) (hm : 0 ≤ m) (i : Nat) : 0 ≤ elT xs i ∧ elT xs i ≤ m := by
  unfold elT
  rcases Nat.lt_or_ge i xs.length with h0 | h0
  · rw [List.getD_eq_getElem?_getD, List.getElem?_eq_getElem h0]; exact h _ (List.getElem_mem h0)
  · rw [List.getD_eq_getElem?_getD, List.getElem?_eq_none h0]; exact ⟨Int.le_refl _, hm⟩
def leftF (p : Tp) (os : Nat → To) (xs : List Int) : Nat → Int
  | 0 => p.wide
  | k + 1 => leftF p os xs k - elT xs k * (os k).wd
def allF (xs : List Int) : Nat → Int
  | 0 => 0
  | k + 1 => allF xs k + elT xs k
def usedF (xs : List Int) : Nat → Int
  | 0 => 0
  | k + 1 => if 0 < elT xs k then usedF xs k + 1 else usedF xs k
def patF (p : Tp) (os : Nat → To) (xs : List Int) (n : Nat) : Bool := (within 1 p.webs [allF xs n] && decide (usedF xs n ≤ 2)) && within p.tlo p.thi [leftF p os xs n]
theorem tr_mul {a b A B : Int} (h1 : 0 ≤ a ∧ a ≤ A) (h2 : 0 ≤ b ∧ b ≤ B) : 0 ≤ a * b ∧ a * b ≤ A * B := ⟨Int.mul_nonneg h1.1 h2.1, Int.mul_le_mul h1.2 h2.2 h2.1 (by omega)⟩
theorem leftF_bd {p : Tp} {os : Nat → To} {xs : List Int} (hp : TpIn p) {n : Nat} (ho : ∀ i, i < n → ToIn (os i)) (hx : ∀ x ∈ xs, 0 ≤ x ∧ x ≤ 4) : ∀ k, k ≤ n → -(12000 * (k : Int)) ≤ leftF p os xs k ∧ leftF p os xs k ≤ 3000
  | 0, _ => by have := hp.wide; show -(12000 * ((0 : Nat) : Int)) ≤ p.wide ∧ p.wide ≤ 3000; omega
  | k + 1, hk => by
    have h := leftF_bd hp ho hx k (by omega)
    have hm := tr_mul (getD_bd hx (by decide) k) (show 0 ≤ (os k).wd ∧ (os k).wd ≤ 3000 by have := (ho k (by omega)).wd; omega)
    show -(12000 * ((k + 1 : Nat) : Int)) ≤ leftF p os xs k - elT xs k * (os k).wd ∧ leftF p os xs k - elT xs k * (os k).wd ≤ 3000
    omega
theorem allF_bd {xs : List Int} (hx : ∀ x ∈ xs, 0 ≤ x ∧ x ≤ 4) : ∀ k : Nat, 0 ≤ allF xs k ∧ allF xs k ≤ 4 * (k : Int)
  | 0 => by show (0 : Int) ≤ 0 ∧ (0 : Int) ≤ 4 * ((0 : Nat) : Int); omega
  | k + 1 => by have h := allF_bd hx k; have := getD_bd hx (by decide) k; show 0 ≤ allF xs k + elT xs k ∧ allF xs k + elT xs k ≤ 4 * ((k + 1 : Nat) : Int); omega
theorem usedF_bd (xs : List Int) : ∀ k : Nat, 0 ≤ usedF xs k ∧ usedF xs k ≤ (k : Int)
  | 0 => by show (0 : Int) ≤ 0 ∧ (0 : Int) ≤ ((0 : Nat) : Int); omega
  | k + 1 => by have h := usedF_bd xs k; unfold usedF; split <;> omega
theorem tr_within1_any (n lo hi : Int) (a b : Addr) (w : World) (ha : w.cell? a = some (.int .i64 lo)) (hb : w.cell? b = some (.int .i64 hi)) :
    Calls Try.prog 108 #[.int .i64 n, .pointer (some a), .pointer (some b)] w fun e w' => e = .returned (.bool (decide (n < lo) || decide (hi < n))) ∧ Below w.heap.size w w' := by
  by_cases h : n < lo
  · go_enter Try.func108, Try.ntmps108
    go_wp2
    go_ret
    exact ⟨by simp [h], Below.refl _ _⟩
  · go_enter Try.func108, Try.ntmps108
    go_wp2
    go_ret
    exact ⟨by simp; omega, Below.refl _ _⟩
theorem tr_pred_within (lo hi : Int) (a b : Addr) (xs : List Int) (w : World) (ha : w.cell? a = some (.int .i64 lo)) (hb : w.cell? b = some (.int .i64 hi)) (la : a.block < w.heap.size) (lb : b.block < w.heap.size) :
    Pred 108 #[.pointer (some a), .pointer (some b)] (Value.int .i64) (fun n => decide (n < lo) || decide (hi < n)) xs w :=
  fun x _ w1 h1 => tr_within1_any x lo hi a b w1 ((h1.cell la).trans ha) ((h1.cell lb).trans hb)
theorem tr_within_any (lo hi : Int) (a : Option Addr) (n c : Nat) (xs : List Int) (w : World) (h : Ii w a n c xs) :
    Calls Try.prog 61 #[.int .i64 lo, .int .i64 hi, .slice a n c] w fun e w' => e = .returned (.bool (within lo hi xs)) ∧ Below w.heap.size w w' := by
  have H := Lib.hid h
  clear h
  have hb2 : Below w.heap.size w ((w.alloc (.cells #[.int .i64 lo] 3)).alloc (.cells #[.int .i64 hi] 3)) := ((Below.refl _ _).alloc (Nat.le_refl _) _).alloc (by simp) _
  have C := Lib.hid (containsFunc_ints 108 Try.call108 _ (fun n => decide (n < lo) || decide (hi < n)) a n c xs _ (H.out.below hb2 (Nat.le_refl _))
    (tr_pred_within lo hi ⟨w.heap.size, 0, none⟩ ⟨w.heap.size + 1, 0, none⟩ xs _ (by simp) (by simp) (by simp; omega) (by simp)))
  have Hb := Lib.hid hb2
  clear hb2
  go_enter Try.func61, Try.ntmps61
  go_wp2_with ((with_reducible refine (C.out).mono ?_); rintro e w2 ⟨rfl, hb2⟩)
  go_ret
  exact ⟨rfl, Hb.out.trans (hb2.mono (by simp; omega))⟩
theorem trim_any (p : Tp) (os : Nat → To) (bo oo no co : Nat) (ax : Option Addr) (nx cx : Nat) (xs : List Int) (w : World) (hO : OrdR w bo oo no os) (hp : TpIn p) (ho : ∀ i, i < no → ToIn (os i)) (gno : no ≤ 4) (hX : Ii w ax nx cx xs) (gxs : ∀ x ∈ xs, 0 ≤ x ∧ x ≤ 4) (gnx : nx ≤ no) :
  Calls Try.prog 115 #[.agg #[.int .i64 p.wide, .int .i64 p.tlo, .int .i64 p.thi, .int .i64 p.webs, .slice (some ⟨bo, oo, none⟩) no co], .slice ax nx cx] w (fun e w' => e = .returned (.int .i64 (leftF p os xs nx)) ∧ Below w.heap.size w w') := by
 obtain ⟨bz, oz, hX_⟩ := hX.open
 refine calls_fr Try.func115 Try.ntmps115 rfl rfl fun g hg => ?_
 have k0 : g 0 = .agg #[.int .i64 p.wide, .int .i64 p.tlo, .int .i64 p.thi, .int .i64 p.webs, .slice (some ⟨bo, oo, none⟩) no co] := hg 0
 have k1 : g 1 = .slice ax nx cx := hg 1
 clear hg
 have fB0 : Below w.heap.size w w := Below.refl _ _
 refine rw_ 2 [(2, 0), (4, 1)] [[], []] (rel [bx 0 #[.int .i64 p.wide, .int .i64 p.tlo, .int .i64 p.thi, .int .i64 p.webs, .slice (some ⟨bo, oo, none⟩) no co] 110, iI 0])
  ⟨fun f s W c d h j l a => opb rfl rfl (by simp [go_sem, a.e 0 k0]),
  fun f s W c d h j l a => opz, trivial⟩ ?_
 intro f1 s1 W1 hB1 g1 hg1 z1
 obtain ⟨r1_0, br1_0⟩ := hB1.is 0
 have lr1_0 := hB1.lr 0 br1_0
 have k1_2 := kt hg1 2 r1_0
 refine rw_ 4 [(8, 0), (9, 1), (10, 2), (5, 3)] [[], [0], [1], [2]] (rel [is (.pointer (some ⟨(s1 0), 0, none⟩)), is (.pointer (some ⟨(s1 0), 0, none⟩)), iI p.wide, iI p.wide])
  ⟨fun f s W c d h j l a => opv rfl rfl (by simp [go_sem, a.e 2 k1_2]) rfl,
  fun f s W c d h j l a => opv rfl rfl (by simp [go_sem, a.e 8 (d 0 rfl)]) rfl,
  fun f s W c d h j l a => opv rfl rfl (by simp [go_sem, a.e 9 (d 1 rfl), cb br1_0 c 0]) rfl,
  fun f s W c d h j l a => opm (a.v 10 (d 2 rfl)), trivial⟩ ?_
 intro f2 s2 W2 hB2 g2 hg2 z2
 have k2_1 := kt hg2 1 (kt hg1 1 k1)
 refine wp_seq_k fun K3 hK3 => ?_
 refine rw_ 3 [(11, 0), (12, 1), (13, 2)] [[], [0], []] (rel [is (.slice ax nx cx), iI ((nx : Int)), iI 0])
  ⟨fun f s W c d h j l a => opm (a.v 1 k2_1),
  fun f s W c d h j l a => opv rfl rfl (by simp [go_sem, a.e 11 (d 0 rfl)]) rfl,
  fun f s W c d h j l a => opz, trivial⟩ ?_
 intro f3 s3 W3 hB3 g3 hg3 z3
 have fB3 := hB3.f (hB2.f (hB1.f fB0))
 have b3_0 := hB3.b (hB2.b br1_0)
 have k3_2 := kt hg3 2 (kt hg2 2 k1_2)
 have k3_4 := kt hg3 4 (kt hg2 4 (kt hg1 4 (hB1.is 1)))
 have k3_5 := kt hg3 5 (kt hg2 5 (hB2.is 3))
 have k3_11 := kt hg3 11 (hB3.is 0)
 have k3_12 := kt hg3 12 (hB3.is 1)
 have k3_13 := kt hg3 13 (hB3.is 2)
 refine wp_block ?_
 refine wp_loop_n (fun m_ a_ W_ => ∃ g_ : Nat → Value, a_ = fr 30 g_ ∧ (∃ k : Nat, m_ = nx - k ∧ g_ 2 = .pointer (some ⟨(s1 0), 0, none⟩) ∧ g_ 4 = .int .i64 0 ∧ g_ 11 = .slice ax nx cx ∧ g_ 12 = .int .i64 ((nx : Int)) ∧ g_ 13 = .int .i64 ((k : Int)) ∧ g_ 5 = .int .i64 ((leftF p os xs k)) ∧ Below w.heap.size w W_ ∧ W3.heap.size ≤ W_.heap.size ∧ W_.heap[(s1 0)]? = some (.cells #[.int .i64 p.wide, .int .i64 p.tlo, .int .i64 p.thi, .int .i64 p.webs, .slice (some ⟨bo, oo, none⟩) no co] 110 (0, 0)) ∧ (k ≤ nx))) ⟨_, g3, rfl, 0, rfl, k3_2, k3_4, k3_11, k3_12, k3_13.trans (by rfl), k3_5.trans (by rfl), fB3, Nat.le_refl _, b3_0, (by omega)⟩ ?_
 rintro _ _ W_1 ⟨g_1, rfl, k, rfl, k_1_2, k_1_4, k_1_11, k_1_12, k_1_13, k_1_5, fB_1, z_1, b_1_0, lk0⟩
 have hl_ := leftF_bd hp (xs := xs) ho gxs k (by omega)
 have hx_ := getD_bd gxs (by decide) k
 have ha_ := allF_bd gxs k
 have hu_ := usedF_bd xs k
 refine rw_ 1 [(14, 0)] [[]] (rel [iB (decide ((k : Int) < (nx : Int)))])
  ⟨fun f s W c d h j l a => opv rfl rfl (by simp [go_sem, a.e 13 k_1_13, a.e 12 k_1_12]) rfl, trivial⟩ ?_
 intro f4 s4 W4 hB4 g4 hg4 z4
 have fB4 := hB4.f fB_1
 have k4_11 := kt hg4 11 k_1_11
 have k4_13 := kt hg4 13 k_1_13
 have k4_5 := kt hg4 5 k_1_5
 have k4_14 := kt hg4 14 (hB4.is 0)
 refine wp_seq_k fun K6 hK6 => ?_
 refine wp_cond_split (t := decide ((k : Int) < (nx : Int))) ((fr_eval rfl).trans k4_14) (fun hc7 => ?_) (fun hc7 => ?_)
 ·
  have hc7' := hc7; try simp only [ba] at hc7'
  have hkn : k < nx := by omega
  have hw_ := (ho k (by omega)).wd
  have hm_ := tr_mul hx_ (show 0 ≤ (os k).wd ∧ (os k).wd ≤ 3000 by omega)
  refine wp_skip ?_
  refine hK6 _ _ ?_
  refine wp_seq_k fun K8 hK8 => ?_
  refine wp_block ?_
  refine rw_ 5 [(15, 0), (16, 1), (17, 2), (6, 3), (7, 4)] [[], [], [1], [0], [2]] (rel [iI ((k : Int)), is (.pointer (some ⟨bz, oz + k, none⟩)), iI ((elT xs k)), iI ((k : Int)), iI ((elT xs k))])
   ⟨fun f s W c d h j l a => opm (a.v 13 k4_13),
  fun f s W c d h j l a => by have hab := (hX_ (by omega)).1; have li_ := Nat.not_le.2 (show k < nx by omega); have li2_ : (k : Int) < (nx : Int) := (by omega); exact opv rfl rfl (by simp [go_sem, a.e 11 k4_11, a.e 13 k4_13, hab, li_, li2_]) rfl,
  fun f s W c d h j l a => by have m := bwt fB4 c; have cu_ := (hX_ (by omega)).2 W m k (by omega); exact opv rfl rfl (by simp [go_sem, a.e 16 (d 1 rfl), cu_]) rfl,
  fun f s W c d h j l a => opm (a.v 15 (d 0 rfl)),
  fun f s W c d h j l a => opm (a.v 17 (d 2 rfl)), trivial⟩ ?_
  intro f5 s5 W5 hB5 g5 hg5 z5
  have fB5 := hB5.f fB4
  have b5_0 := hB5.b (hB4.b b_1_0)
  have k5_2 := kt hg5 2 (kt hg4 2 k_1_2)
  have k5_5 := kt hg5 5 k4_5
  have k5_6 := kt hg5 6 (hB5.is 3)
  have k5_7 := kt hg5 7 (hB5.is 4)
  refine ry 11 [(18, 0), (19, 1), (20, 2), (21, 3), (22, 4), (23, 5), (24, 6), (25, 7), (26, 8), (27, 9), (5, 10)] [[], [], [], [2], [], [3, 4], [5], [6], [1, 7], [0, 8], [0, 9]] (rel [iI ((leftF p os xs k)), iI ((elT xs k)), is (.pointer (some ⟨(s1 0), 4, none⟩)), is (.slice (some ⟨bo, oo, none⟩) no co), iI ((k : Int)), is (.pointer (some ⟨bo, oo + k * 3, none⟩)), is (.pointer (some ⟨bo, oo + k * 3, none⟩)), iI ((os k).wd), iI ((elT xs k) * ((os k).wd)), iI ((leftF p os xs k) - ((elT xs k) * ((os k).wd))), iI ((leftF p os xs k) - ((elT xs k) * ((os k).wd)))])
   ⟨fun f s W c d h j l a => opm (a.v 5 ((j 10 5 rfl rfl).trans k5_5)),
  fun f s W c d h j l a => opm (a.v 7 k5_7),
  fun f s W c d h j l a => opv rfl rfl (by simp [go_sem, a.e 2 k5_2]) rfl,
  fun f s W c d h j l a => opv rfl rfl (by simp [go_sem, a.e 20 (d 2 rfl), cb b5_0 c 4]) rfl,
  fun f s W c d h j l a => opm (a.v 6 k5_6),
  fun f s W c d h j l a => by have li_ := Nat.not_le.2 (show k < no by omega); have li2_ : (k : Int) < (no : Int) := (by omega); exact opv rfl rfl (by simp [go_sem, a.e 21 (d 3 rfl), a.e 22 (d 4 rfl), li_, li2_]) rfl,
  fun f s W c d h j l a => opv rfl rfl (by simp [go_sem, a.e 23 (d 5 rfl)]) rfl,
  fun f s W c d h j l a => by have m := bwt fB5 c; have cu_ := (hO.below m).2 k (by omega); have cu0_ : W.cell? ⟨bo, oo + k * 3, none⟩ = some (.int .i64 (os k).wd) := cu_.1; exact opv rfl rfl (by simp [go_sem, a.e 24 (d 6 rfl), cu0_]) rfl,
  fun f s W c d h j l a => opv rfl rfl (by simp [go_sem, a.e 19 (d 1 rfl), a.e 25 (d 7 rfl), IntWalk.i64_in ((elT xs k) * ((os k).wd)) (by omega)]) rfl,
  fun f s W c d h j l a => opv rfl rfl (by simp [go_sem, a.e 18 (d 0 rfl), a.e 26 (d 8 rfl), IntWalk.i64_in ((leftF p os xs k) - ((elT xs k) * ((os k).wd))) (by omega)]) rfl,
  fun f s W c d h j l a => opm (a.v 27 (d 9 rfl)), trivial⟩ ?_
  intro f6 s6 W6 hB6 g6 hg6 z6
  refine wpe ?_
  have k6_13 := kt hg6 13 (kt hg5 13 k4_13)
  refine ibn ?_
  refine hK8 _ _ ?_
  refine ry 2 [(28, 0), (13, 1)] [[], [0]] (rel [iI ((k : Int) + 1), iI ((k : Int) + 1)])
   ⟨fun f s W c d h j l a => opv rfl rfl (by simp [go_sem, a.e 13 ((j 1 13 rfl rfl).trans k6_13), IntWalk.i64_in ((k : Int) + 1) (by omega)]) rfl,
  fun f s W c d h j l a => opm (a.v 28 (d 0 rfl)), trivial⟩ ?_
  intro f7 s7 W7 hB7 g7 hg7 z7
  have fB7 := hB7.f (hB6.f fB5)
  have b7_0 := hB7.b (hB6.b b5_0)
  refine wpe ?_
  have k7_2 := kt hg7 2 (kt hg6 2 k5_2)
  have k7_4 := kt hg7 4 (kt hg6 4 (kt hg5 4 (kt hg4 4 k_1_4)))
  have k7_11 := kt hg7 11 (kt hg6 11 (kt hg5 11 k4_11))
  have k7_12 := kt hg7 12 (kt hg6 12 (kt hg5 12 (kt hg4 12 k_1_12)))
  have k7_5 := kt hg7 5 (kt hg6 5 (hB6.is 10))
  have k7_13 := kt hg7 13 (hB7.is 1)
  refine then_normal ?_
  exact ⟨_, by omega, g7, rfl, k + 1, rfl, k7_2, k7_4, k7_11, k7_12, k7_13.trans (by go_num), k7_5.trans (by rfl), fB7, (by omega), b7_0, (by omega)⟩
 ·
  have hc7' := hc7; try simp only [ba] at hc7'
  have hkn : k = nx := by omega
  refine wp_exit ?_
  refine then_exit ?_
  refine then_exit ?_
  refine inBlock_at ?_
  refine hK3 _ _ ?_
  refine rw_ 2 [(29, 0), (4, 1)] [[], [0]] (rel [iI ((leftF p os xs k)), iI ((leftF p os xs k))])
   ⟨fun f s W c d h j l a => opm (a.v 5 k4_5),
  fun f s W c d h j l a => opm (a.v 29 (d 0 rfl)), trivial⟩ ?_
  intro f8 s8 W8 hB8 g8 hg8 z8
  have fB8 := hB8.f fB4
  have k8_4 := kt hg8 4 (hB8.is 1)
  refine wp_ret ?_
  refine leave_one (N := 30) (.inr rfl) Try.results115 rfl k8_4 ?_
  have hkn' : k = nx := by omega
  subst hkn'
  exact ⟨rfl, fB8⟩
theorem isPattern_any (p : Tp) (os : Nat → To) (bo oo no co : Nat) (ax : Option Addr) (nx cx : Nat) (xs : List Int) (w : World) (hO : OrdR w bo oo no os) (hp : TpIn p) (ho : ∀ i, i < no → ToIn (os i)) (gno : no ≤ 4) (hX : Ii w ax nx cx xs) (gxs : ∀ x ∈ xs, 0 ≤ x ∧ x ≤ 4) (gnx : nx ≤ no) :
  Calls Try.prog 142 #[.agg #[.int .i64 p.wide, .int .i64 p.tlo, .int .i64 p.thi, .int .i64 p.webs, .slice (some ⟨bo, oo, none⟩) no co], .slice ax nx cx] w (fun e w' => e = .returned (.bool (patF p os xs nx)) ∧ Below w.heap.size w w') := by
 obtain ⟨bz, oz, hX_⟩ := hX.open
 refine calls_fr Try.func142 Try.ntmps142 rfl rfl fun g hg => ?_
 have k0 : g 0 = .agg #[.int .i64 p.wide, .int .i64 p.tlo, .int .i64 p.thi, .int .i64 p.webs, .slice (some ⟨bo, oo, none⟩) no co] := hg 0
 have k1 : g 1 = .slice ax nx cx := hg 1
 clear hg
 have fB0 : Below w.heap.size w w := Below.refl _ _
 refine rw_ 2 [(2, 0), (4, 1)] [[], []] (rel [bx 0 #[.int .i64 p.wide, .int .i64 p.tlo, .int .i64 p.thi, .int .i64 p.webs, .slice (some ⟨bo, oo, none⟩) no co] 110, iB false])
  ⟨fun f s W h j l m n a => opb rfl rfl (by simp [go_sem, a.e 0 k0]),
  fun f s W h j l m n a => opz, trivial⟩ ?_
 intro f1 s1 W1 hB1 g1 hg1 z1
 obtain ⟨r1_0, br1_0⟩ := hB1.is 0
 have lr1_0 := hB1.lr 0 br1_0
 refine rw_ 2 [(5, 0), (6, 1)] [[], []] (rel [iI 0, iI 0])
  ⟨fun f s W h j l m n a => opz,
  fun f s W h j l m n a => opz, trivial⟩ ?_
 intro f2 s2 W2 hB2 g2 hg2 z2
 have k2_1 := kt hg2 1 (kt hg1 1 k1)
 refine wp_seq_k fun K3 hK3 => ?_
 refine rw_ 3 [(9, 0), (10, 1), (11, 2)] [[], [0], []] (rel [is (.slice ax nx cx), iI ((nx : Int)), iI 0])
  ⟨fun f s W h j l m n a => opm (a.v 1 k2_1),
  fun f s W h j l m n a => opv rfl rfl (by simp [go_sem, a.e 9 (j 0 rfl)]) rfl,
  fun f s W h j l m n a => opz, trivial⟩ ?_
 intro f3 s3 W3 hB3 g3 hg3 z3
 have fB3 := hB3.f (hB2.f (hB1.f fB0))
 have b3_0 := hB3.b (hB2.b br1_0)
 have k3_1 := kt hg3 1 k2_1
 have k3_2 := kt hg3 2 (kt hg2 2 (kt hg1 2 r1_0))
 have k3_4 := kt hg3 4 (kt hg2 4 (kt hg1 4 (hB1.is 1)))
 have k3_5 := kt hg3 5 (kt hg2 5 (hB2.is 0))
 have k3_6 := kt hg3 6 (kt hg2 6 (hB2.is 1))
 have k3_9 := kt hg3 9 (hB3.is 0)
 have k3_10 := kt hg3 10 (hB3.is 1)
 have k3_11 := kt hg3 11 (hB3.is 2)
 refine wp_block ?_
 refine wp_loop_n (fun m_ a_ W_ => ∃ g_ : Nat → Value, a_ = fr 48 g_ ∧ (∃ k : Nat, m_ = nx - k ∧ g_ 1 = .slice ax nx cx ∧ g_ 2 = .pointer (some ⟨(s1 0), 0, none⟩) ∧ g_ 4 = .bool false ∧ g_ 9 = .slice ax nx cx ∧ g_ 10 = .int .i64 ((nx : Int)) ∧ g_ 11 = .int .i64 ((k : Int)) ∧ g_ 5 = .int .i64 ((allF xs k)) ∧ g_ 6 = .int .i64 ((usedF xs k)) ∧ Below w.heap.size w W_ ∧ W3.heap.size ≤ W_.heap.size ∧ W_.heap[(s1 0)]? = some (.cells #[.int .i64 p.wide, .int .i64 p.tlo, .int .i64 p.thi, .int .i64 p.webs, .slice (some ⟨bo, oo, none⟩) no co] 110 (0, 0)) ∧ (k ≤ nx))) ⟨_, g3, rfl, 0, rfl, k3_1, k3_2, k3_4, k3_9, k3_10, k3_11.trans (by rfl), k3_5.trans (by rfl), k3_6.trans (by rfl), fB3, Nat.le_refl _, b3_0, (by omega)⟩ ?_
 rintro _ _ W_2 ⟨g_2, rfl, k, rfl, k_2_1, k_2_2, k_2_4, k_2_9, k_2_10, k_2_11, k_2_5, k_2_6, fB_2, z_2, b_2_0, lk0⟩
 have hl_ := leftF_bd hp (xs := xs) ho gxs k (by omega)
 have hx_ := getD_bd gxs (by decide) k
 have ha_ := allF_bd gxs k
 have hu_ := usedF_bd xs k
 refine rw_ 1 [(12, 0)] [[]] (rel [iB (decide ((k : Int) < (nx : Int)))])
  ⟨fun f s W h j l m n a => opv rfl rfl (by simp [go_sem, a.e 11 k_2_11, a.e 10 k_2_10]) rfl, trivial⟩ ?_
 intro f4 s4 W4 hB4 g4 hg4 z4
 have fB4 := hB4.f fB_2
 have b4_0 := hB4.b b_2_0
 have k4_1 := kt hg4 1 k_2_1
 have k4_2 := kt hg4 2 k_2_2
 have k4_9 := kt hg4 9 k_2_9
 have k4_11 := kt hg4 11 k_2_11
 have k4_5 := kt hg4 5 k_2_5
 have k4_6 := kt hg4 6 k_2_6
 have k4_12 := kt hg4 12 (hB4.is 0)
 refine wp_seq_k fun K6 hK6 => ?_
 refine wp_cond_split (t := decide ((k : Int) < (nx : Int))) ((fr_eval rfl).trans k4_12) (fun hc7 => ?_) (fun hc7 => ?_)
 ·
  have hc7' := hc7; try simp only [ba] at hc7'
  have hkn : k < nx := by omega
  refine wp_skip ?_
  refine hK6 _ _ ?_
  refine wp_seq_k fun K8 hK8 => ?_
  refine wp_block ?_
  refine rw_ 3 [(13, 0), (14, 1), (8, 2)] [[], [0], [1]] (rel [is (.pointer (some ⟨bz, oz + k, none⟩)), iI ((elT xs k)), iI ((elT xs k))])
   ⟨fun f s W h j l m n a => by have hab := (hX_ (by omega)).1; have li_ := Nat.not_le.2 (show k < nx by omega); have li2_ : (k : Int) < (nx : Int) := (by omega); exact opv rfl rfl (by simp [go_sem, a.e 9 k4_9, a.e 11 k4_11, hab, li_, li2_]) rfl,
  fun f s W h j l m n a => by have o := bwt fB4 h; have cu_ := (hX_ (by omega)).2 W o k (by omega); exact opv rfl rfl (by simp [go_sem, a.e 13 (j 0 rfl), cu_]) rfl,
  fun f s W h j l m n a => opm (a.v 14 (j 1 rfl)), trivial⟩ ?_
  intro f5 s5 W5 hB5 g5 hg5 z5
  have k5_5 := kt hg5 5 k4_5
  have k5_8 := kt hg5 8 (hB5.is 2)
  refine rw_ 4 [(15, 0), (16, 1), (17, 2), (5, 3)] [[], [], [0, 1], [0, 2]] (rel [iI ((allF xs k)), iI ((elT xs k)), iI ((allF xs k) + (elT xs k)), iI ((allF xs k) + (elT xs k))])
   ⟨fun f s W h j l m n a => opm (a.v 5 ((m 3 5 rfl rfl).trans k5_5)),
  fun f s W h j l m n a => opm (a.v 8 k5_8),
  fun f s W h j l m n a => opv rfl rfl (by simp [go_sem, a.e 15 (j 0 rfl), a.e 16 (j 1 rfl), IntWalk.i64_in ((allF xs k) + (elT xs k)) (by omega)]) rfl,
  fun f s W h j l m n a => opm (a.v 17 (j 2 rfl)), trivial⟩ ?_
  intro f6 s6 W6 hB6 g6 hg6 z6
  have k6_8 := kt hg6 8 k5_8
  refine rw_ 2 [(18, 0), (19, 1)] [[], [0]] (rel [iI ((elT xs k)), iB (decide (0 < (elT xs k)))])
   ⟨fun f s W h j l m n a => opm (a.v 8 k6_8),
  fun f s W h j l m n a => opv rfl rfl (by simp [go_sem, a.e 18 (j 0 rfl)]) rfl, trivial⟩ ?_
  intro f7 s7 W7 hB7 g7 hg7 z7
  have fB7 := hB7.f (hB6.f (hB5.f fB4))
  have b7_0 := hB7.b (hB6.b (hB5.b b4_0))
  have k7_1 := kt hg7 1 (kt hg6 1 (kt hg5 1 k4_1))
  have k7_2 := kt hg7 2 (kt hg6 2 (kt hg5 2 k4_2))
  have k7_4 := kt hg7 4 (kt hg6 4 (kt hg5 4 (kt hg4 4 k_2_4)))
  have k7_9 := kt hg7 9 (kt hg6 9 (kt hg5 9 k4_9))
  have k7_10 := kt hg7 10 (kt hg6 10 (kt hg5 10 (kt hg4 10 k_2_10)))
  have k7_11 := kt hg7 11 (kt hg6 11 (kt hg5 11 k4_11))
  have k7_6 := kt hg7 6 (kt hg6 6 (kt hg5 6 k4_6))
  have k7_5 := kt hg7 5 (kt hg6 5 (hB6.is 3))
  have k7_19 := kt hg7 19 (hB7.is 1)
  refine wp_cond_split (t := decide (0 < (elT xs k))) ((fr_eval rfl).trans k7_19) (fun hc12 => ?_) (fun hc12 => ?_)
  ·
   have hc12' := hc12; try simp only [ba] at hc12'
   refine ry 3 [(20, 0), (21, 1), (6, 2)] [[], [0], [0, 1]] (rel [iI ((usedF xs k)), iI ((usedF xs k) + 1), iI ((usedF xs k) + 1)])
    ⟨fun f s W h j l m n a => opm (a.v 6 ((m 2 6 rfl rfl).trans k7_6)),
  fun f s W h j l m n a => opv rfl rfl (by simp [go_sem, a.e 20 (j 0 rfl), IntWalk.i64_in ((usedF xs k) + 1) (by omega)]) rfl,
  fun f s W h j l m n a => opm (a.v 21 (j 1 rfl)), trivial⟩ ?_
   intro f8 s8 W8 hB8 g8 hg8 z8
   have fB8 := hB8.f fB7
   have b8_0 := hB8.b b7_0
   refine wpe ?_
   have k8_1 := kt hg8 1 k7_1
   have k8_2 := kt hg8 2 k7_2
   have k8_4 := kt hg8 4 k7_4
   have k8_9 := kt hg8 9 k7_9
   have k8_10 := kt hg8 10 k7_10
   have k8_11 := kt hg8 11 k7_11
   have k8_5 := kt hg8 5 k7_5
   have k8_6 := kt hg8 6 (hB8.is 2)
   refine ibn ?_
   refine hK8 _ _ ?_
   refine ry 2 [(22, 0), (11, 1)] [[], [0]] (rel [iI ((k : Int) + 1), iI ((k : Int) + 1)])
    ⟨fun f s W h j l m n a => opv rfl rfl (by simp [go_sem, a.e 11 ((m 1 11 rfl rfl).trans k8_11), IntWalk.i64_in ((k : Int) + 1) (by omega)]) rfl,
  fun f s W h j l m n a => opm (a.v 22 (j 0 rfl)), trivial⟩ ?_
   intro f9 s9 W9 hB9 g9 hg9 z9
   have fB9 := hB9.f fB8
   have b9_0 := hB9.b b8_0
   refine wpe ?_
   have k9_1 := kt hg9 1 k8_1
   have k9_2 := kt hg9 2 k8_2
   have k9_4 := kt hg9 4 k8_4
   have k9_9 := kt hg9 9 k8_9
   have k9_10 := kt hg9 10 k8_10
   have k9_5 := kt hg9 5 k8_5
   have k9_6 := kt hg9 6 k8_6
   have k9_11 := kt hg9 11 (hB9.is 1)
   refine then_normal ?_
   exact ⟨_, by omega, g9, rfl, k + 1, rfl, k9_1, k9_2, k9_4, k9_9, k9_10, k9_11.trans (by go_num), k9_5.trans (by rfl), k9_6.trans (by rw [show usedF xs (k + 1) = usedF xs k + 1 from if_pos (by omega)]), fB9, (by omega), b9_0, (by omega)⟩
  ·
   have hc12' := hc12; try simp only [ba] at hc12'
   refine wp_skip ?_
   refine ibn ?_
   refine hK8 _ _ ?_
   refine ry 2 [(22, 0), (11, 1)] [[], [0]] (rel [iI ((k : Int) + 1), iI ((k : Int) + 1)])
    ⟨fun f s W h j l m n a => opv rfl rfl (by simp [go_sem, a.e 11 ((m 1 11 rfl rfl).trans k7_11), IntWalk.i64_in ((k : Int) + 1) (by omega)]) rfl,
  fun f s W h j l m n a => opm (a.v 22 (j 0 rfl)), trivial⟩ ?_
   intro f10 s10 W10 hB10 g10 hg10 z10
   have fB10 := hB10.f fB7
   have b10_0 := hB10.b b7_0
   refine wpe ?_
   have k10_1 := kt hg10 1 k7_1
   have k10_2 := kt hg10 2 k7_2
   have k10_4 := kt hg10 4 k7_4
   have k10_9 := kt hg10 9 k7_9
   have k10_10 := kt hg10 10 k7_10
   have k10_6 := kt hg10 6 k7_6
   have k10_5 := kt hg10 5 k7_5
   have k10_11 := kt hg10 11 (hB10.is 1)
   refine then_normal ?_
   exact ⟨_, by omega, g10, rfl, k + 1, rfl, k10_1, k10_2, k10_4, k10_9, k10_10, k10_11.trans (by go_num), k10_5.trans (by rfl), k10_6.trans (by rw [show usedF xs (k + 1) = usedF xs k from if_neg (by omega)]), fB10, (by omega), b10_0, (by omega)⟩
 ·
  have hc7' := hc7; try simp only [ba] at hc7'
  have hkn : k = nx := by omega
  refine wp_exit ?_
  refine then_exit ?_
  refine then_exit ?_
  refine inBlock_at ?_
  refine hK3 _ _ ?_
  refine wp_seq_k fun K13 hK13 => ?_
  skip
  ·
   have hkn' : k = nx := by omega
   have kn5_ : g4 5 = .int .i64 (allF xs nx) := k4_5.trans (by rw [hkn'])
   have kn6_ : g4 6 = .int .i64 (usedF xs nx) := k4_6.trans (by rw [hkn'])
   refine rz 26 [(23, 0), (24, 1), (25, 2), (26, 3), (27, 4), (28, 5), (29, 6), (30, 7), (31, 8), (32, 9), (33, 10), (34, 11), (35, 12), (36, 13), (37, 14), (38, 15), (39, 16), (40, 17), (41, 18), (42, 19), (43, 20), (44, 21), (45, 22), (46, 23), (47, 24), (4, 25)] [[], [0], [1], [], [3], [2, 4], [5], [6], [6, 7], [6, 8], [9], [10], [10, 11], [10, 12], [10, 13], [10], [10, 15], [10, 16], [10, 17], [10], [10], [10, 19, 20], [10, 21], [10, 14, 18, 22], [10, 23], [24]] (rel [is (.pointer (some ⟨(s1 0), 0, none⟩)), is (.pointer (some ⟨(s1 0), 3, none⟩)), iI p.webs, iI ((allF xs nx)), row 4 1 #[.int .i64 ((allF xs nx))] 3, iB (within (1) (p.webs) [(allF xs nx)]), iB (within (1) (p.webs) [(allF xs nx)]), gd (within (1) (p.webs) [(allF xs nx)]) true (iI ((usedF xs nx))), gd (within (1) (p.webs) [(allF xs nx)]) true (iB (decide ((usedF xs nx) ≤ 2))), iB ((within (1) (p.webs) [(allF xs nx)]) && (decide ((usedF xs nx) ≤ 2))), iB ((within (1) (p.webs) [(allF xs nx)]) && (decide ((usedF xs nx) ≤ 2))), gd ((within (1) (p.webs) [(allF xs nx)]) && (decide ((usedF xs nx) ≤ 2))) true (is (.pointer (some ⟨(s1 0), 0, none⟩))), gd ((within (1) (p.webs) [(allF xs nx)]) && (decide ((usedF xs nx) ≤ 2))) true (is (.pointer (some ⟨(s1 0), 1, none⟩))), gd ((within (1) (p.webs) [(allF xs nx)]) && (decide ((usedF xs nx) ≤ 2))) true (is (.pointer (some ⟨(s1 0), 1, none⟩))), gd ((within (1) (p.webs) [(allF xs nx)]) && (decide ((usedF xs nx) ≤ 2))) true (iI p.tlo), gd ((within (1) (p.webs) [(allF xs nx)]) && (decide ((usedF xs nx) ≤ 2))) true (is (.pointer (some ⟨(s1 0), 0, none⟩))), gd ((within (1) (p.webs) [(allF xs nx)]) && (decide ((usedF xs nx) ≤ 2))) true (is (.pointer (some ⟨(s1 0), 1, none⟩))), gd ((within (1) (p.webs) [(allF xs nx)]) && (decide ((usedF xs nx) ≤ 2))) true (is (.pointer (some ⟨(s1 0), 2, none⟩))), gd ((within (1) (p.webs) [(allF xs nx)]) && (decide ((usedF xs nx) ≤ 2))) true (iI p.thi), gd ((within (1) (p.webs) [(allF xs nx)]) && (decide ((usedF xs nx) ≤ 2))) true (is (.agg #[.int .i64 p.wide, .int .i64 p.tlo, .int .i64 p.thi, .int .i64 p.webs, .slice (some ⟨bo, oo, none⟩) no co])), gd ((within (1) (p.webs) [(allF xs nx)]) && (decide ((usedF xs nx) ≤ 2))) true (is (.slice ax nx cx)), gd ((within (1) (p.webs) [(allF xs nx)]) && (decide ((usedF xs nx) ≤ 2))) true (iI ((leftF p os xs nx))), gd ((within (1) (p.webs) [(allF xs nx)]) && (decide ((usedF xs nx) ≤ 2))) true (row 22 1 #[.int .i64 ((leftF p os xs nx))] 3), gd ((within (1) (p.webs) [(allF xs nx)]) && (decide ((usedF xs nx) ≤ 2))) true (iB (within (p.tlo) (p.thi) [(leftF p os xs nx)])), iB (((within (1) (p.webs) [(allF xs nx)]) && (decide ((usedF xs nx) ≤ 2))) && (within (p.tlo) (p.thi) [(leftF p os xs nx)])), iB (((within (1) (p.webs) [(allF xs nx)]) && (decide ((usedF xs nx) ≤ 2))) && (within (p.tlo) (p.thi) [(leftF p os xs nx)]))])
    ⟨is_k, is_k, is_k, is_k, row_k, is_k, is_k, gd_k (is_k), gd_k (is_k), is_k, is_k, gd_k (is_k), gd_k (is_k), gd_k (is_k), gd_k (is_k), gd_k (is_k), gd_k (is_k), gd_k (is_k), gd_k (is_k), gd_k (is_k), gd_k (is_k), gd_k (is_k), gd_k (row_k), gd_k (is_k), is_k, is_k, trivial⟩
    ⟨fun f s W h j l m n a => opv rfl rfl (by simp [go_sem, a.e 2 k4_2]) rfl,
  fun f s W h j l m n a => opv rfl rfl (by simp [go_sem, a.e 23 (j 0 rfl)]) rfl,
  fun f s W h j l m n a => opv rfl rfl (by simp [go_sem, a.e 24 (j 1 rfl), cb b4_0 h 3]) rfl,
  fun f s W h j l m n a => opm (a.v 5 kn5_),
  fun f s W h j l m n a => opr rfl rfl (by simp [go_sem, a.e 26 (j 3 rfl)]),
  fun f s W h j l m n a => opc (args := #[.int .i64 1, .int .i64 p.webs, .slice (some ⟨(s 4), 0, none⟩) (1) (1)]) rfl rfl (by simp [go_sem, a.e 25 (j 2 rfl), a.e 27 (j 4 rfl).1]) (tr_within_any (1) (p.webs) _ 1 1 [(allF xs nx)] W (ii_block (xs := [(allF xs nx)]) (j 4 rfl).2 rfl rfl)),
  fun f s W h j l m n a => opm (a.v 28 (j 5 rfl)),
  fun f s W h j l m n a => gdo rfl rfl (a.says (d := 29) rfl rfl (j 6 rfl)) fun hgd0 => gv (by simp [go_sem, a.e 6 kn6_]) rfl,
  fun f s W h j l m n a => gdo rfl rfl (a.says (d := 29) rfl rfl (j 6 rfl)) fun hgd0 => gv (by simp [go_sem, a.e 30 ((j 7 rfl).1 hgd0)]) rfl,
  fun f s W h j l m n a => opk (c := within (1) (p.webs) [(allF xs nx)]) rfl rfl (fun hpk => by simp [go_sem, hpk, a.e 29 (j 6 rfl)]) (fun hpk => by simp [go_sem, hpk, a.e 29 (j 6 rfl), a.e 31 ((j 8 rfl).1 hpk)]),
  fun f s W h j l m n a => opm (a.v 32 (j 9 rfl)),
  fun f s W h j l m n a => gdo rfl rfl (a.says (d := 33) rfl rfl (j 10 rfl)) fun hgd0 => gv (by simp [go_sem, a.e 2 k4_2]) rfl,
  fun f s W h j l m n a => gdo rfl rfl (a.says (d := 33) rfl rfl (j 10 rfl)) fun hgd0 => gv (by simp [go_sem, a.e 34 ((j 11 rfl).1 hgd0)]) rfl,
  fun f s W h j l m n a => gdo rfl rfl (a.says (d := 33) rfl rfl (j 10 rfl)) fun hgd0 => gv (by simp [go_sem, a.e 35 ((j 12 rfl).1 hgd0)]) rfl,
  fun f s W h j l m n a => gdo rfl rfl (a.says (d := 33) rfl rfl (j 10 rfl)) fun hgd0 => gv (by simp [go_sem, a.e 36 ((j 13 rfl).1 hgd0), cb b4_0 h 1]) rfl,
  fun f s W h j l m n a => gdo rfl rfl (a.says (d := 33) rfl rfl (j 10 rfl)) fun hgd0 => gv (by simp [go_sem, a.e 2 k4_2]) rfl,
  fun f s W h j l m n a => gdo rfl rfl (a.says (d := 33) rfl rfl (j 10 rfl)) fun hgd0 => gv (by simp [go_sem, a.e 38 ((j 15 rfl).1 hgd0)]) rfl,
  fun f s W h j l m n a => gdo rfl rfl (a.says (d := 33) rfl rfl (j 10 rfl)) fun hgd0 => gv (by simp [go_sem, a.e 39 ((j 16 rfl).1 hgd0)]) rfl,
  fun f s W h j l m n a => gdo rfl rfl (a.says (d := 33) rfl rfl (j 10 rfl)) fun hgd0 => gv (by simp [go_sem, a.e 40 ((j 17 rfl).1 hgd0), cb b4_0 h 2]) rfl,
  fun f s W h j l m n a => gdo rfl rfl (a.says (d := 33) rfl rfl (j 10 rfl)) fun hgd0 => gv (by simp [go_sem, a.e 2 k4_2, cb b4_0 h 0, cb b4_0 h 1, cb b4_0 h 2, cb b4_0 h 3, cb b4_0 h 4]) rfl,
  fun f s W h j l m n a => gdo rfl rfl (a.says (d := 33) rfl rfl (j 10 rfl)) fun hgd0 => gv (by simp [go_sem, a.e 1 k4_1]) rfl,
  fun f s W h j l m n a => gdo rfl rfl (a.says (d := 33) rfl rfl (j 10 rfl)) fun hgd0 => by have o := bwt fB4 h; exact gc (by simp [go_sem, a.e 42 ((j 19 rfl).1 hgd0), a.e 43 ((j 20 rfl).1 hgd0)]) (trim_any p os bo oo no co ax nx cx xs W (hO.below o) hp ho gno (hX.below o (Nat.le_refl _)) gxs gnx),
  fun f s W h j l m n a => gdo rfl rfl (a.says (d := 33) rfl rfl (j 10 rfl)) fun hgd0 => gr (by simp [go_sem, a.e 44 ((j 21 rfl).1 hgd0)]),
  fun f s W h j l m n a => gdo rfl rfl (a.says (d := 33) rfl rfl (j 10 rfl)) fun hgd0 => gc (args := #[.int .i64 p.tlo, .int .i64 p.thi, .slice (some ⟨(s 22), 0, none⟩) (1) (1)]) (by simp [go_sem, a.e 37 ((j 14 rfl).1 hgd0), a.e 41 ((j 18 rfl).1 hgd0), a.e 45 ((j 22 rfl).1 hgd0).1]) (tr_within_any (p.tlo) (p.thi) _ 1 1 [(leftF p os xs nx)] W (ii_block (xs := [(leftF p os xs nx)]) ((j 22 rfl).1 hgd0).2 rfl rfl)),
  fun f s W h j l m n a => opk (c := (within (1) (p.webs) [(allF xs nx)]) && (decide ((usedF xs nx) ≤ 2))) rfl rfl (fun hpk => by first | (simp [go_sem, hpk, a.e 33 (j 10 rfl)]; done) | (have hpk' := hpk; simp at hpk'; simp [go_sem, hpk', hpk, a.e 33 (j 10 rfl)]; done) | (have hpk' := of_decide_eq_false hpk; simp only [Int.ofNat_lt] at hpk'; simp [go_sem, hpk', hpk, a.e 33 (j 10 rfl)])) (fun hpk => by first | (simp [go_sem, hpk, a.e 33 (j 10 rfl), a.e 46 ((j 23 rfl).1 hpk)]; done) | (have hpk' := hpk; simp at hpk'; simp [go_sem, hpk', hpk, a.e 33 (j 10 rfl), a.e 46 ((j 23 rfl).1 hpk)]; done) | (have hpk' := of_decide_eq_false hpk; simp only [Int.ofNat_lt] at hpk'; simp [go_sem, hpk', hpk, a.e 33 (j 10 rfl), a.e 46 ((j 23 rfl).1 hpk)])),
  fun f s W h j l m n a => opm (a.v 47 (j 24 rfl)), trivial⟩ ?_
   intro f11 s11 W11 hB11 g11 hg11 z11
   have fB11 := hB11.f fB4
   obtain ⟨r11_4, br11_4⟩ := hB11.is 4
   have lr11_4 := hB11.lr 4 br11_4
   have r11_22 := hB11.is 22
   refine hK13 _ _ ?_
   have k11_4 := kt hg11 4 (hB11.is 25)
   refine wp_ret ?_
   refine leave_one (N := 48) (.inr rfl) Try.results142 rfl k11_4 ?_
   exact ⟨rfl, fB11⟩
end Go.Proofs.Ytcgccflcjejlhaa
