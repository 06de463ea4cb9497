/- Part of the proof: what the claim leans on. -/
import Derived.Test.YtcgccflcjejlhaaDAD
set_option linter.unusedSimpArgs false
set_option linter.unusedVariables false
namespace Go.Proofs.Ytcgccflcjejlhaa
open Go.RowKit
def rwL (CH : List (List Int)) (i : Nat) : List Int := CH.getD i []
/-- A valid shop with valid jobs. -/
structure FlOk (nm ns nj : Nat) (CH : List (List Int)) (x : Fs) (js : Nat → Fj) : Prop where
  nmB : 1 ≤ nm ∧ nm ≤ 4
  nsB : ns ≤ 1
  njB : nj ≤ 6
  cl : CH.length = 2
  cr : ∀ i, i < 2 → (rwL CH i).length = 2 ∧ ∀ v ∈ rwL CH i, 0 ≤ v ∧ v ≤ 255
  st : 0 < ns → 0 ≤ x.m ∧ x.m < (nm : Int) ∧ 0 ≤ x.f ∧ x.f < x.t
  xt : 0 ≤ x.t ∧ x.t ≤ 2000
  jb : ∀ i, FjIn (js i) 2000
  jd : ∀ i, 0 ≤ (js i).du ∧ (js i).du ≤ 2000
  jm : ∀ i, (js i).ms.length = nm
/-- A stop; jobs one behind another. -/
def StR (W : World) (b o n : Nat) (sa : Option Addr) (x : Fs) : Prop := 0 < n → sa = some ⟨b, o, none⟩ ∧ b < W.heap.size ∧ W.cell? ⟨b, o, none⟩ = some (.int .i64 x.m) ∧ W.cell? ⟨b, o + 1, none⟩ = some (.int .i64 x.f) ∧ W.cell? ⟨b, o + 2, none⟩ = some (.int .i64 x.t)
theorem StR.below {W W' : World} {b o n : Nat} {sa : Option Addr} {x : Fs} (h : StR W b o n sa x) (hb : Below W.heap.size W W') : StR W' b o n sa x := fun h0 => by
  obtain ⟨e, h1, h2, h3, h4⟩ := h h0
  exact ⟨e, Nat.lt_of_lt_of_le h1 hb.size, (hb.cell (p := ⟨b, o, none⟩) h1).trans h2, (hb.cell (p := ⟨b, o + 1, none⟩) h1).trans h3, (hb.cell (p := ⟨b, o + 2, none⟩) h1).trans h4⟩
def JbR (W : World) (b o n : Nat) (js : Nat → Fj) (ad : Nat → Option Addr) (cp : Nat → Nat) : Prop := b < W.heap.size ∧ ∀ i, i < n → W.cell? ⟨b, o + i * 4, none⟩ = some (.int .i64 ((js i).kd : Int)) ∧ W.cell? ⟨b, o + i * 4 + 1, none⟩ = some (.int .i64 (js i).rd) ∧ W.cell? ⟨b, o + i * 4 + 2, none⟩ = some (.int .i64 (js i).du) ∧ W.cell? ⟨b, o + i * 4 + 3, none⟩ = some (.slice (ad i) (js i).ms.length (cp i)) ∧ Ii W (ad i) (js i).ms.length (cp i) (js i).ms
theorem JbR.below {W W' : World} {b o n : Nat} {js : Nat → Fj} {ad : Nat → Option Addr} {cp : Nat → Nat} (h : JbR W b o n js ad cp) (hb : Below W.heap.size W W') : JbR W' b o n js ad cp :=
  ⟨Nat.lt_of_lt_of_le h.1 hb.size, fun i hi => ⟨(hb.cell (p := ⟨b, o + i * 4, none⟩) h.1).trans (h.2 i hi).1, (hb.cell (p := ⟨b, o + i * 4 + 1, none⟩) h.1).trans (h.2 i hi).2.1, (hb.cell (p := ⟨b, o + i * 4 + 2, none⟩) h.1).trans (h.2 i hi).2.2.1, (hb.cell (p := ⟨b, o + i * 4 + 3, none⟩) h.1).trans (h.2 i hi).2.2.2.1, (h.2 i hi).2.2.2.2.below hb (Nat.le_refl _)⟩⟩
/-- The lists of how long machines are changed. -/
def ChR (W : World) (b o : Nat) (CH : List (List Int)) (ad : Nat → Option Addr) (cp : Nat → Nat) : Prop := b < W.heap.size ∧ ∀ i, i < 2 → W.cell? ⟨b, o + i, none⟩ = some (.slice (ad i) (rwL CH i).length (cp i)) ∧ Ii W (ad i) (rwL CH i).length (cp i) (rwL CH i)
theorem ChR.below {W W' : World} {b o : Nat} {CH : List (List Int)} {ad : Nat → Option Addr} {cp : Nat → Nat} (h : ChR W b o CH ad cp) (hb : Below W.heap.size W W') : ChR W' b o CH ad cp :=
  ⟨Nat.lt_of_lt_of_le h.1 hb.size, fun i hi => ⟨(hb.cell (p := ⟨b, o + i, none⟩) h.1).trans (h.2 i hi).1, (h.2 i hi).2.below hb (Nat.le_refl _)⟩⟩
structure FlR (nm ns nj : Nat) (CH : List (List Int)) (js : Nat → Fj) (x : Fs) (bc oc bs os_ bj oj : Nat) (sa : Option Addr) (adc : Nat → Option Addr) (kpc : Nat → Nat) (adj : Nat → Option Addr) (kpj : Nat → Nat) (W : World) : Prop where
  c : ChR W bc oc CH adc kpc
  s : StR W bs os_ ns sa x
  j : JbR W bj oj nj js adj kpj
theorem FlR.below {nm ns nj : Nat} {CH : List (List Int)} {js : Nat → Fj} {x : Fs} {bc oc bs os_ bj oj : Nat} {sa : Option Addr} {adc : Nat → Option Addr} {kpc : Nat → Nat} {adj : Nat → Option Addr} {kpj : Nat → Nat} {W W' : World} (h : FlR nm ns nj CH js x bc oc bs os_ bj oj sa adc kpc adj kpj W) (hb : Below W.heap.size W W') : FlR nm ns nj CH js x bc oc bs os_ bj oj sa adc kpc adj kpj W' := ⟨h.c.below hb, h.s.below hb, h.j.below hb⟩
theorem fl_within_yes {lo hi : Int} {xs : List Int} (h : ∀ x ∈ xs, lo ≤ x ∧ x ≤ hi) : within lo hi xs = true := by
  unfold within
  simp only [Bool.not_eq_true', List.any_eq_false]
  intro x hx
  have := h x hx
  simp; omega
set_option maxHeartbeats 400000 in
theorem fl_within1_any (n lo hi : Int) (a b : Addr) (w : World) (ha : w.cell? a = some (.int .i64 lo)) (hb : w.cell? b = some (.int .i64 hi)) :
    Calls Try.prog 130 #[.int .i64 n, .pointer (some a), .pointer (some b)] w fun e w' => e = .returned (.bool (decide (n < lo) || decide (hi < n))) ∧ Below w.heap.size w w' := by
  by_cases h : n < lo
  · go_enter Try.func130, Try.ntmps130
    go_wp2
    go_ret
    exact ⟨by simp [h], Below.refl _ _⟩
  · go_enter Try.func130, Try.ntmps130
    go_wp2
    go_ret
    exact ⟨by simp; omega, Below.refl _ _⟩
theorem fl_pred_within (lo hi : Int) (a b : Addr) (xs : List Int) (w : World) (ha : w.cell? a = some (.int .i64 lo)) (hb : w.cell? b = some (.int .i64 hi)) (la : a.block < w.heap.size) (lb : b.block < w.heap.size) :
    Pred 130 #[.pointer (some a), .pointer (some b)] (Value.int .i64) (fun n => decide (n < lo) || decide (hi < n)) xs w :=
  fun x _ w1 h1 => fl_within1_any x lo hi a b w1 ((h1.cell la).trans ha) ((h1.cell lb).trans hb)
set_option maxHeartbeats 400000 in
theorem fl_within_any (lo hi : Int) (a : Option Addr) (n c : Nat) (xs : List Int) (w : World) (h : Ii w a n c xs) :
    Calls Try.prog 89 #[.int .i64 lo, .int .i64 hi, .slice a n c] w fun e w' => e = .returned (.bool (within lo hi xs)) ∧ Below w.heap.size w w' := by
  have H := Lib.hid h
  clear h
  have hb2 : Below w.heap.size w ((w.alloc (.cells #[.int .i64 lo] 3)).alloc (.cells #[.int .i64 hi] 3)) := ((Below.refl _ _).alloc (Nat.le_refl _) _).alloc (by simp) _
  have C := Lib.hid (containsFunc_ints 130 Try.call130 _ (fun n => decide (n < lo) || decide (hi < n)) a n c xs _ (H.out.below hb2 (Nat.le_refl _))
    (fl_pred_within lo hi ⟨w.heap.size, 0, none⟩ ⟨w.heap.size + 1, 0, none⟩ xs _ (by simp) (by simp) (by simp; omega) (by simp)))
  have Hb := Lib.hid hb2
  clear hb2
  go_enter Try.func89, Try.ntmps89
  go_wp2_with ((with_reducible refine (C.out).mono ?_); rintro e w2 ⟨rfl, hb2⟩)
  go_ret
  exact ⟨rfl, Hb.out.trans (hb2.mono (by simp; omega))⟩
set_option maxRecDepth 100000 in
set_option maxHeartbeats 400000 in
theorem isTime_yes (a : Option Addr) (n c : Nat) (xs : List Int) (w : World) (hX : Ii w a n c xs) (hg_ : ∀ v ∈ xs, 0 ≤ v ∧ v ≤ 100000) :
  Calls Try.prog 133 #[.slice (a) (n) (c)] w (fun e w' => e = .returned (.bool true) ∧ Below w.heap.size w w') := by
 refine calls_fr Try.func133 Try.ntmps133 rfl rfl fun g hg => ?_
 have k0 : g 0 = .slice (a) (n) (c) := hg 0
 clear hg
 have fB0 : Below w.heap.size w w := Below.refl _ _
 refine wp_seq_k fun K1 hK1 => ?_
 refine region_dk 1 [(2, 0)] [[]] (rel [is (.bool false)])
  ⟨is_k, trivial⟩
  ⟨fun f s W d i j k l b => opv rfl rfl (by simp [go_sem]) rfl, trivial⟩ ?_
 intro f1 s1 W1 hB1 g1 hg1
 have fB1 := hB1.f fB0
 have z1 := hB1.below.size
 refine hK1 _ _ ?_
 have k1_0 := kt hg1 0 k0
 have k1_2 := kt hg1 2 (hB1.is 0)
 refine wp_seq_k fun K2 hK2 => ?_
 refine region_dk 3 [(3, 0), (4, 1), (2, 2)] [[], [0], [0, 1]] (rel [is (.slice (a) (n) (c)),
   is (.bool true),
   is (.bool true)])
  ⟨is_k, is_k, is_k, trivial⟩
  ⟨fun f s W d i j k l b => opv rfl rfl (by simp [go_sem, b.e 0 k1_0]) rfl,
  fun f s W d i j k l b => by have m := below_trans fB1 d; exact opDo_call (args := #[.int .i64 0, .int .i64 100000, .slice (a) (n) (c)]) rfl rfl (by simp [go_sem, b.e 3 (i 0 rfl)]) (fl_within_any (0) (100000) (a) (n) (c) _ W (hX.below m (Nat.le_refl _))) ((fun e W' h => by have h1 := h.1; rw [fl_within_yes (fun v hv => by have := hg_ v hv; omega)] at h1; exact ⟨_, h1, h.2, rfl⟩)),
  fun f s W d i j k l b => opv rfl rfl (by simp [go_sem, b.e 4 (i 1 rfl)]) rfl, trivial⟩ ?_
 intro f2 s2 W2 hB2 g2 hg2
 have fB2 := hB2.f fB1
 have z2 := hB2.below.size
 refine hK2 _ _ ?_
 have k2_2 := kt hg2 2 (hB2.is 2)
 refine wp_ret ?_
 refine leave_one (N := 5) (v := .bool true) (.inr rfl) Try.results133 rfl k2_2 ?_
 exact ⟨rfl, fB2⟩
set_option maxRecDepth 100000 in
set_option maxHeartbeats 400000 in
theorem isStop_yes (nm ns nj : Nat) (CH : List (List Int)) (x : Fs) (js : Nat → Fj) (bc oc cc bs os_ sc bj oj cj : Nat) (sa : Option Addr) (adc : Nat → Option Addr) (kpc : Nat → Nat) (adj : Nat → Option Addr) (kpj : Nat → Nat) (w : World) (hF : FlOk nm ns nj CH x js) (hM : FlR nm ns nj CH js x bc oc bs os_ bj oj sa adc kpc adj kpj w) (h0 : 0 < ns) :
  Calls Try.prog 93 #[.agg #[.int .i64 ((nm : Int)), .slice (some ⟨bc, oc, none⟩) (2) (cc), .slice (sa) (ns) (sc)], .agg #[.int .i64 x.m, .int .i64 x.f, .int .i64 x.t]] w (fun e w' => e = .returned (.bool true) ∧ Below w.heap.size w w') := by
 have g1_ := hF.st h0
 have g2_ := hF.xt
 have g3_ := hF.nmB
 have hft_ : (decide (x.f < x.t)) = true := decide_eq_true g1_.2.2.2
 refine calls_fr Try.func93 Try.ntmps93 rfl rfl fun g hg => ?_
 have k0 : g 0 = .agg #[.int .i64 ((nm : Int)), .slice (some ⟨bc, oc, none⟩) (2) (cc), .slice (sa) (ns) (sc)] := hg 0
 have k1 : g 1 = .agg #[.int .i64 x.m, .int .i64 x.f, .int .i64 x.t] := hg 1
 clear hg
 have fB0 : Below w.heap.size w w := Below.refl _ _
 refine wp_seq_k fun K1 hK1 => ?_
 refine region_dk 3 [(2, 0), (3, 1), (4, 2)] [[], [], []] (rel [bx 0 #[.int .i64 ((nm : Int)), .slice (some ⟨bc, oc, none⟩) (2) (cc), .slice (sa) (ns) (sc)] 29,
   bx 1 #[.int .i64 x.m, .int .i64 x.f, .int .i64 x.t] 34,
   is (.bool false)])
  ⟨bx_k, bx_k, is_k, trivial⟩
  ⟨fun f s W i j k l n a => opb rfl rfl (by simp [go_sem, a.e 0 k0]),
  fun f s W i j k l n a => opb rfl rfl (by simp [go_sem, a.e 1 k1]),
  fun f s W i j k l n a => opv rfl rfl (by simp [go_sem]) rfl, trivial⟩ ?_
 intro f1 s1 W1 hB1 g1 hg1
 have fB1 := hB1.f fB0
 have z1 := hB1.below.size
 obtain ⟨r1_0, br1_0⟩ := hB1.is 0
 have lr1_0 := hB1.lr 0 br1_0
 obtain ⟨r1_1, br1_1⟩ := hB1.is 1
 have lr1_1 := hB1.lr 1 br1_1
 have ne1_0_1 := hB1.nb 0 1
 refine hK1 _ _ ?_
 have k1_2 := kt hg1 2 r1_0
 have k1_3 := kt hg1 3 r1_1
 have k1_4 := kt hg1 4 (hB1.is 2)
 refine wp_seq_k fun K2 hK2 => ?_
 refine region_dk 23 [(5, 0), (6, 1), (7, 2), (8, 3), (9, 4), (10, 5), (11, 6), (12, 7), (13, 8), (14, 9), (15, 10), (16, 11), (17, 12), (18, 13), (19, 14), (20, 15), (21, 16), (22, 17), (23, 18), (24, 19), (25, 20), (26, 21), (4, 22)] [[], [0], [0, 1], [], [3], [3, 4], [0, 1, 2, 3, 4, 5], [0, 1, 2, 3, 4, 5, 6], [0, 1, 2, 3, 4, 5, 6, 7], [0, 1, 2, 3, 4, 5, 6, 7, 8], [0, 1, 2, 3, 4, 5, 6, 7], [0, 1, 2, 3, 4, 5, 6, 7, 10], [0, 1, 2, 3, 4, 5, 6, 7, 8, 9, 10, 11], [0, 1, 2, 3, 4, 5, 6, 7, 8, 9, 10, 11, 12], [0, 1, 2, 3, 4, 5, 6, 7, 8, 9, 10, 11, 12, 13], [0, 1, 2, 3, 4, 5, 6, 7, 8, 9, 10, 11, 12, 13, 14], [0, 1, 2, 3, 4, 5, 6, 7, 8, 9, 10, 11, 12, 13, 14, 15], [0, 1, 2, 3, 4, 5, 6, 7, 8, 9, 10, 11, 12, 13, 14, 15, 16], [0, 1, 2, 3, 4, 5, 6, 7, 8, 9, 10, 11, 12, 13, 14, 15], [0, 1, 2, 3, 4, 5, 6, 7, 8, 9, 10, 11, 12, 13, 14, 15, 18], [0, 1, 2, 3, 4, 5, 6, 7, 8, 9, 10, 11, 12, 13, 14, 15, 16, 17, 18, 19], [0, 1, 2, 3, 4, 5, 6, 7, 8, 9, 10, 11, 12, 13, 14, 15, 16, 17, 18, 19, 20], [0, 1, 2, 3, 4, 5, 6, 7, 8, 9, 10, 11, 12, 13, 14, 15, 16, 17, 18, 19, 20, 21]] (rel [is (.pointer (some ⟨(s1 0), 0, none⟩)),
   is (.int .i64 ((nm : Int))),
   is (.int .i64 ((nm : Int) - 1)),
   is (.pointer (some ⟨(s1 1), 0, none⟩)),
   is (.int .i64 x.m),
   row 5 1 #[.int .i64 x.m] 3,
   is (.bool true),
   is (.bool true),
   is (.pointer (some ⟨(s1 1), 1, none⟩)),
   is (.int .i64 x.f),
   is (.pointer (some ⟨(s1 1), 2, none⟩)),
   is (.int .i64 x.t),
   row 12 2 #[.int .i64 x.f, .int .i64 x.t] 3,
   is (.bool true),
   is (.bool true),
   is (.bool true),
   is (.pointer (some ⟨(s1 1), 1, none⟩)),
   is (.int .i64 x.f),
   is (.pointer (some ⟨(s1 1), 2, none⟩)),
   is (.int .i64 x.t),
   is (.bool true),
   is (.bool true),
   is (.bool true)])
  ⟨is_k, is_k, is_k, is_k, is_k, row_k, is_k, is_k, is_k, is_k, is_k, is_k, row_k, is_k, is_k, is_k, is_k, is_k, is_k, is_k, is_k, is_k, is_k, trivial⟩
  ⟨fun f s W i j k l n a => opv rfl rfl (by simp [go_sem, a.e 2 k1_2]) rfl,
  fun f s W i j k l n a => opv rfl rfl (by simp [go_sem, a.e 5 (j 0 rfl), cb br1_0 i 0]) rfl,
  fun f s W i j k l n a => opv rfl rfl (by simp [go_sem, a.e 6 (j 1 rfl), IntWalk.i64_in ((nm : Int) - 1) (by omega)]) rfl,
  fun f s W i j k l n a => opv rfl rfl (by simp [go_sem, a.e 3 k1_3]) rfl,
  fun f s W i j k l n a => opv rfl rfl (by simp [go_sem, a.e 8 (j 3 rfl), cb br1_1 i 0]) rfl,
  fun f s W i j k l n a => opr rfl rfl (by simp [go_sem, a.e 9 (j 4 rfl)]),
  fun f s W i j k l n a => opDo_call (args := #[.int .i64 0, .int .i64 ((nm : Int) - 1), .slice (some ⟨(s 5), 0, none⟩) (1) (1)]) rfl rfl (by simp [go_sem, a.e 7 (j 2 rfl), a.e 10 (j 5 rfl).1]) (fl_within_any (0) ((nm : Int) - 1) _ 1 1 [x.m] W (ii_block (xs := [x.m]) (j 5 rfl).2 rfl rfl)) ((fun e W' h => by have h1 := h.1; rw [fl_within_yes (by simp; omega)] at h1; exact ⟨_, h1, h.2, rfl⟩)),
  fun f s W i j k l n a => opv rfl rfl (by simp [go_sem, a.e 11 (j 6 rfl)]) rfl,
  fun f s W i j k l n a => osure rfl rfl (a.says (d := 12) rfl rfl (j 7 rfl)) (gv (by simp [go_sem, a.e 3 k1_3]) rfl),
  fun f s W i j k l n a => osure rfl rfl (a.says (d := 12) rfl rfl (j 7 rfl)) (gv (by simp [go_sem, a.e 13 (j 8 rfl), cb br1_1 i 1]) rfl),
  fun f s W i j k l n a => osure rfl rfl (a.says (d := 12) rfl rfl (j 7 rfl)) (gv (by simp [go_sem, a.e 3 k1_3]) rfl),
  fun f s W i j k l n a => osure rfl rfl (a.says (d := 12) rfl rfl (j 7 rfl)) (gv (by simp [go_sem, a.e 15 (j 10 rfl), cb br1_1 i 2]) rfl),
  fun f s W i j k l n a => osure rfl rfl (a.says (d := 12) rfl rfl (j 7 rfl)) (gr (by simp [go_sem, a.e 14 (j 9 rfl), a.e 16 (j 11 rfl)])),
  fun f s W i j k l n a => osure rfl rfl (a.says (d := 12) rfl rfl (j 7 rfl)) (gc (args := #[.slice (some ⟨(s 12), 0, none⟩) (2) (2)]) (by simp [go_sem, a.e 17 (j 12 rfl).1]) (isTime_yes _ 2 2 [x.f, x.t] W (ii_block (xs := [x.f, x.t]) (j 12 rfl).2 rfl rfl) (by simp; omega))),
  fun f s W i j k l n a => opk (c := true) rfl rfl (fun h => absurd h (by decide)) (fun _ => by simp [go_sem, a.e 12 (j 7 rfl), a.e 18 (j 13 rfl)]),
  fun f s W i j k l n a => opv rfl rfl (by simp [go_sem, a.e 19 (j 14 rfl)]) rfl,
  fun f s W i j k l n a => osure rfl rfl (a.says (d := 20) rfl rfl (j 15 rfl)) (gv (by simp [go_sem, a.e 3 k1_3]) rfl),
  fun f s W i j k l n a => osure rfl rfl (a.says (d := 20) rfl rfl (j 15 rfl)) (gv (by simp [go_sem, a.e 21 (j 16 rfl), cb br1_1 i 1]) rfl),
  fun f s W i j k l n a => osure rfl rfl (a.says (d := 20) rfl rfl (j 15 rfl)) (gv (by simp [go_sem, a.e 3 k1_3]) rfl),
  fun f s W i j k l n a => osure rfl rfl (a.says (d := 20) rfl rfl (j 15 rfl)) (gv (by simp [go_sem, a.e 23 (j 18 rfl), cb br1_1 i 2]) rfl),
  fun f s W i j k l n a => osure rfl rfl (a.says (d := 20) rfl rfl (j 15 rfl)) (gv (by simp [go_sem, a.e 22 (j 17 rfl), a.e 24 (j 19 rfl), hft_]) rfl),
  fun f s W i j k l n a => opk (c := true) rfl rfl (fun h => absurd h (by decide)) (fun _ => by simp [go_sem, a.e 20 (j 15 rfl), a.e 25 (j 20 rfl)]),
  fun f s W i j k l n a => opv rfl rfl (by simp [go_sem, a.e 26 (j 21 rfl)]) rfl, trivial⟩ ?_
 intro f2 s2 W2 hB2 g2 hg2
 have fB2 := hB2.f fB1
 have z2 := hB2.below.size
 have b2_0 := hB2.b br1_0
 have b2_1 := hB2.b br1_1
 obtain ⟨r2_5, br2_5⟩ := hB2.is 5
 have lr2_5 := hB2.lr 5 br2_5
 obtain ⟨r2_12, br2_12⟩ := hB2.is 12
 have lr2_12 := hB2.lr 12 br2_12
 have ne2_5_12 := hB2.nb 5 12
 refine hK2 _ _ ?_
 have k2_4 := kt hg2 4 (hB2.is 22)
 refine wp_ret ?_
 refine leave_one (N := 27) (v := .bool true) (.inr rfl) Try.results93 rfl k2_4 ?_
 exact ⟨rfl, fB2⟩
set_option maxRecDepth 100000 in
set_option maxHeartbeats 400000 in
theorem isJob_yes (nm ns nj : Nat) (CH : List (List Int)) (x : Fs) (js : Nat → Fj) (bc oc cc bs os_ sc bj oj cj : Nat) (sa : Option Addr) (adc : Nat → Option Addr) (kpc : Nat → Nat) (adj : Nat → Option Addr) (kpj : Nat → Nat) (i : Nat) (w : World) (hF : FlOk nm ns nj CH x js) (hM : FlR nm ns nj CH js x bc oc bs os_ bj oj sa adc kpc adj kpj w) (hi : i < nj) :
  Calls Try.prog 96 #[.agg #[.int .i64 ((nm : Int)), .slice (some ⟨bc, oc, none⟩) (2) (cc), .slice (sa) (ns) (sc)], .agg #[.int .i64 (((js i).kd : Int)), .int .i64 ((js i).rd), .int .i64 ((js i).du), .slice ((adj i)) ((js i).ms.length) ((kpj i))]] w (fun e w' => e = .returned (.bool true) ∧ Below w.heap.size w w') := by
 have g1_ := hF.jb i
 have g2_ := g1_.kd
 have g3_ := g1_.rd
 have g4_ := hF.jd i
 have g5_ := hF.nmB
 have hg_ := g1_.ms
 have hjm_ : (((js i).ms.length : Int) == (nm : Int)) = true := beq_iff_eq.2 (by rw [hF.jm i])
 refine calls_fr Try.func96 Try.ntmps96 rfl rfl fun g hg => ?_
 have k0 : g 0 = .agg #[.int .i64 ((nm : Int)), .slice (some ⟨bc, oc, none⟩) (2) (cc), .slice (sa) (ns) (sc)] := hg 0
 have k1 : g 1 = .agg #[.int .i64 (((js i).kd : Int)), .int .i64 ((js i).rd), .int .i64 ((js i).du), .slice ((adj i)) ((js i).ms.length) ((kpj i))] := hg 1
 clear hg
 have fB0 : Below w.heap.size w w := Below.refl _ _
 refine wp_seq_k fun K1 hK1 => ?_
 refine region_dk 3 [(2, 0), (3, 1), (4, 2)] [[], [], []] (rel [bx 0 #[.int .i64 ((nm : Int)), .slice (some ⟨bc, oc, none⟩) (2) (cc), .slice (sa) (ns) (sc)] 29,
   bx 1 #[.int .i64 (((js i).kd : Int)), .int .i64 ((js i).rd), .int .i64 ((js i).du), .slice ((adj i)) ((js i).ms.length) ((kpj i))] 32,
   is (.bool false)])
  ⟨bx_k, bx_k, is_k, trivial⟩
  ⟨fun f s W k l m n o a => opb rfl rfl (by simp [go_sem, a.e 0 k0]),
  fun f s W k l m n o a => opb rfl rfl (by simp [go_sem, a.e 1 k1]),
  fun f s W k l m n o a => opv rfl rfl (by simp [go_sem]) rfl, trivial⟩ ?_
 intro f1 s1 W1 hB1 g1 hg1
 have fB1 := hB1.f fB0
 have z1 := hB1.below.size
 obtain ⟨r1_0, br1_0⟩ := hB1.is 0
 have lr1_0 := hB1.lr 0 br1_0
 obtain ⟨r1_1, br1_1⟩ := hB1.is 1
 have lr1_1 := hB1.lr 1 br1_1
 have ne1_0_1 := hB1.nb 0 1
 refine hK1 _ _ ?_
 have k1_2 := kt hg1 2 r1_0
 have k1_3 := kt hg1 3 r1_1
 have k1_4 := kt hg1 4 (hB1.is 2)
 refine wp_seq_k fun K2 hK2 => ?_
 refine region_dk 30 [(5, 0), (6, 1), (7, 2), (8, 3), (9, 4), (10, 5), (11, 6), (12, 7), (13, 8), (14, 9), (15, 10), (16, 11), (17, 12), (18, 13), (19, 14), (20, 15), (21, 16), (22, 17), (23, 18), (24, 19), (25, 20), (26, 21), (27, 22), (28, 23), (29, 24), (30, 25), (31, 26), (32, 27), (33, 28), (4, 29)] [[], [0], [0, 1], [0, 1, 2], [], [4], [4, 5], [0, 1, 2, 3, 4, 5, 6], [0, 1, 2, 3, 4, 5, 6, 7], [0, 1, 2, 3, 4, 5, 6, 7, 8], [0, 1, 2, 3, 4, 5, 6, 7, 8, 9], [0, 1, 2, 3, 4, 5, 6, 7, 8], [0, 1, 2, 3, 4, 5, 6, 7, 8, 11], [0, 1, 2, 3, 4, 5, 6, 7, 8, 9, 10, 11, 12], [0, 1, 2, 3, 4, 5, 6, 7, 8, 9, 10, 11, 12, 13], [0, 1, 2, 3, 4, 5, 6, 7, 8, 9, 10, 11, 12, 13, 14], [0, 1, 2, 3, 4, 5, 6, 7, 8, 9, 10, 11, 12, 13, 14, 15], [0, 1, 2, 3, 4, 5, 6, 7, 8, 9, 10, 11, 12, 13, 14, 15, 16], [0, 1, 2, 3, 4, 5, 6, 7, 8, 9, 10, 11, 12, 13, 14, 15, 16, 17], [0, 1, 2, 3, 4, 5, 6, 7, 8, 9, 10, 11, 12, 13, 14, 15, 16, 17, 18], [0, 1, 2, 3, 4, 5, 6, 7, 8, 9, 10, 11, 12, 13, 14, 15, 16], [0, 1, 2, 3, 4, 5, 6, 7, 8, 9, 10, 11, 12, 13, 14, 15, 16, 20], [0, 1, 2, 3, 4, 5, 6, 7, 8, 9, 10, 11, 12, 13, 14, 15, 16, 17, 18, 19, 20, 21], [0, 1, 2, 3, 4, 5, 6, 7, 8, 9, 10, 11, 12, 13, 14, 15, 16, 17, 18, 19, 20, 21, 22], [0, 1, 2, 3, 4, 5, 6, 7, 8, 9, 10, 11, 12, 13, 14, 15, 16, 17, 18, 19, 20, 21, 22, 23], [0, 1, 2, 3, 4, 5, 6, 7, 8, 9, 10, 11, 12, 13, 14, 15, 16, 17, 18, 19, 20, 21, 22, 23, 24], [0, 1, 2, 3, 4, 5, 6, 7, 8, 9, 10, 11, 12, 13, 14, 15, 16, 17, 18, 19, 20, 21, 22, 23, 24, 25], [0, 1, 2, 3, 4, 5, 6, 7, 8, 9, 10, 11, 12, 13, 14, 15, 16, 17, 18, 19, 20, 21, 22, 23, 24, 25, 26], [0, 1, 2, 3, 4, 5, 6, 7, 8, 9, 10, 11, 12, 13, 14, 15, 16, 17, 18, 19, 20, 21, 22, 23, 24, 25, 26, 27], [0, 1, 2, 3, 4, 5, 6, 7, 8, 9, 10, 11, 12, 13, 14, 15, 16, 17, 18, 19, 20, 21, 22, 23, 24, 25, 26, 27, 28]] (rel [is (.pointer (some ⟨(s1 0), 1, none⟩)),
   is (.slice (some ⟨bc, oc, none⟩) (2) (cc)),
   is (.int .i64 2),
   is (.int .i64 1),
   is (.pointer (some ⟨(s1 1), 0, none⟩)),
   is (.int .i64 (((js i).kd : Int))),
   row 6 1 #[.int .i64 (((js i).kd : Int))] 3,
   is (.bool true),
   is (.bool true),
   is (.pointer (some ⟨(s1 1), 1, none⟩)),
   is (.int .i64 ((js i).rd)),
   is (.pointer (some ⟨(s1 1), 2, none⟩)),
   is (.int .i64 ((js i).du)),
   row 13 2 #[.int .i64 ((js i).rd), .int .i64 ((js i).du)] 3,
   is (.bool true),
   is (.bool true),
   is (.bool true),
   is (.pointer (some ⟨(s1 1), 3, none⟩)),
   is (.slice ((adj i)) ((js i).ms.length) ((kpj i))),
   is (.int .i64 (((js i).ms.length : Int))),
   is (.pointer (some ⟨(s1 0), 0, none⟩)),
   is (.int .i64 ((nm : Int))),
   is (.bool true),
   is (.bool true),
   is (.bool true),
   is (.pointer (some ⟨(s1 1), 3, none⟩)),
   is (.slice ((adj i)) ((js i).ms.length) ((kpj i))),
   is (.bool true),
   is (.bool true),
   is (.bool true)])
  ⟨is_k, is_k, is_k, is_k, is_k, is_k, row_k, is_k, is_k, is_k, is_k, is_k, is_k, row_k, is_k, is_k, is_k, is_k, is_k, is_k, is_k, is_k, is_k, is_k, is_k, is_k, is_k, is_k, is_k, is_k, trivial⟩
  ⟨fun f s W k l m n o a => opv rfl rfl (by simp [go_sem, a.e 2 k1_2]) rfl,
  fun f s W k l m n o a => opv rfl rfl (by simp [go_sem, a.e 5 (l 0 rfl), cb br1_0 k 1]) rfl,
  fun f s W k l m n o a => opv rfl rfl (by simp [go_sem, a.e 6 (l 1 rfl)]) rfl,
  fun f s W k l m n o a => opv rfl rfl (by simp [go_sem, a.e 7 (l 2 rfl), IntWalk.i64_in (1) (by omega)]) rfl,
  fun f s W k l m n o a => opv rfl rfl (by simp [go_sem, a.e 3 k1_3]) rfl,
  fun f s W k l m n o a => opv rfl rfl (by simp [go_sem, a.e 9 (l 4 rfl), cb br1_1 k 0]) rfl,
  fun f s W k l m n o a => opr rfl rfl (by simp [go_sem, a.e 10 (l 5 rfl)]),
  fun f s W k l m n o a => opDo_call (args := #[.int .i64 0, .int .i64 1, .slice (some ⟨(s 6), 0, none⟩) (1) (1)]) rfl rfl (by simp [go_sem, a.e 8 (l 3 rfl), a.e 11 (l 6 rfl).1]) (fl_within_any (0) (1) _ 1 1 [((js i).kd : Int)] W (ii_block (xs := [((js i).kd : Int)]) (l 6 rfl).2 rfl rfl)) ((fun e W' h => by have h1 := h.1; rw [fl_within_yes (by simp; omega)] at h1; exact ⟨_, h1, h.2, rfl⟩)),
  fun f s W k l m n o a => opv rfl rfl (by simp [go_sem, a.e 12 (l 7 rfl)]) rfl,
  fun f s W k l m n o a => osure rfl rfl (a.says (d := 13) rfl rfl (l 8 rfl)) (gv (by simp [go_sem, a.e 3 k1_3]) rfl),
  fun f s W k l m n o a => osure rfl rfl (a.says (d := 13) rfl rfl (l 8 rfl)) (gv (by simp [go_sem, a.e 14 (l 9 rfl), cb br1_1 k 1]) rfl),
  fun f s W k l m n o a => osure rfl rfl (a.says (d := 13) rfl rfl (l 8 rfl)) (gv (by simp [go_sem, a.e 3 k1_3]) rfl),
  fun f s W k l m n o a => osure rfl rfl (a.says (d := 13) rfl rfl (l 8 rfl)) (gv (by simp [go_sem, a.e 16 (l 11 rfl), cb br1_1 k 2]) rfl),
  fun f s W k l m n o a => osure rfl rfl (a.says (d := 13) rfl rfl (l 8 rfl)) (gr (by simp [go_sem, a.e 15 (l 10 rfl), a.e 17 (l 12 rfl)])),
  fun f s W k l m n o a => osure rfl rfl (a.says (d := 13) rfl rfl (l 8 rfl)) (gc (args := #[.slice (some ⟨(s 13), 0, none⟩) (2) (2)]) (by simp [go_sem, a.e 18 (l 13 rfl).1]) (isTime_yes _ 2 2 [(js i).rd, (js i).du] W (ii_block (xs := [(js i).rd, (js i).du]) (l 13 rfl).2 rfl rfl) (by simp; omega))),
  fun f s W k l m n o a => opk (c := true) rfl rfl (fun h => absurd h (by decide)) (fun _ => by simp [go_sem, a.e 13 (l 8 rfl), a.e 19 (l 14 rfl)]),
  fun f s W k l m n o a => opv rfl rfl (by simp [go_sem, a.e 20 (l 15 rfl)]) rfl,
  fun f s W k l m n o a => osure rfl rfl (a.says (d := 21) rfl rfl (l 16 rfl)) (gv (by simp [go_sem, a.e 3 k1_3]) rfl),
  fun f s W k l m n o a => osure rfl rfl (a.says (d := 21) rfl rfl (l 16 rfl)) (gv (by simp [go_sem, a.e 22 (l 17 rfl), cb br1_1 k 3]) rfl),
  fun f s W k l m n o a => osure rfl rfl (a.says (d := 21) rfl rfl (l 16 rfl)) (gv (by simp [go_sem, a.e 23 (l 18 rfl)]) rfl),
  fun f s W k l m n o a => osure rfl rfl (a.says (d := 21) rfl rfl (l 16 rfl)) (gv (by simp [go_sem, a.e 2 k1_2]) rfl),
  fun f s W k l m n o a => osure rfl rfl (a.says (d := 21) rfl rfl (l 16 rfl)) (gv (by simp [go_sem, a.e 25 (l 20 rfl), cb br1_0 k 0]) rfl),
  fun f s W k l m n o a => osure rfl rfl (a.says (d := 21) rfl rfl (l 16 rfl)) (gv (by simp [go_sem, a.e 24 (l 19 rfl), a.e 26 (l 21 rfl), hjm_]) rfl),
  fun f s W k l m n o a => opk (c := true) rfl rfl (fun h => absurd h (by decide)) (fun _ => by simp [go_sem, a.e 21 (l 16 rfl), a.e 27 (l 22 rfl)]),
  fun f s W k l m n o a => opv rfl rfl (by simp [go_sem, a.e 28 (l 23 rfl)]) rfl,
  fun f s W k l m n o a => osure rfl rfl (a.says (d := 29) rfl rfl (l 24 rfl)) (gv (by simp [go_sem, a.e 3 k1_3]) rfl),
  fun f s W k l m n o a => osure rfl rfl (a.says (d := 29) rfl rfl (l 24 rfl)) (gv (by simp [go_sem, a.e 30 (l 25 rfl), cb br1_1 k 3]) rfl),
  fun f s W k l m n o a => osure rfl rfl (a.says (d := 29) rfl rfl (l 24 rfl)) (by have p := below_trans fB1 k; exact wp_called (args := #[.int .i64 0, .int .i64 2000, .slice ((adj i)) ((js i).ms.length) ((kpj i))]) (by simp [go_sem, a.e 31 (l 26 rfl)]) (fl_within_any (0) (2000) ((adj i)) ((js i).ms.length) ((kpj i)) _ W ((hM.j.below p).2 i hi).2.2.2.2) ((fun e W' h => by have h1 := h.1; rw [fl_within_yes (fun v hv => by have := hg_ v hv; omega)] at h1; exact ⟨_, h1, h.2, rfl⟩))),
  fun f s W k l m n o a => opk (c := true) rfl rfl (fun h => absurd h (by decide)) (fun _ => by simp [go_sem, a.e 29 (l 24 rfl), a.e 32 (l 27 rfl)]),
  fun f s W k l m n o a => opv rfl rfl (by simp [go_sem, a.e 33 (l 28 rfl)]) rfl, trivial⟩ ?_
 intro f2 s2 W2 hB2 g2 hg2
 have fB2 := hB2.f fB1
 have z2 := hB2.below.size
 have b2_0 := hB2.b br1_0
 have b2_1 := hB2.b br1_1
 obtain ⟨r2_6, br2_6⟩ := hB2.is 6
 have lr2_6 := hB2.lr 6 br2_6
 obtain ⟨r2_13, br2_13⟩ := hB2.is 13
 have lr2_13 := hB2.lr 13 br2_13
 have ne2_6_13 := hB2.nb 6 13
 refine hK2 _ _ ?_
 have k2_4 := kt hg2 4 (hB2.is 29)
 refine wp_ret ?_
 refine leave_one (N := 34) (v := .bool true) (.inr rfl) Try.results96 rfl k2_4 ?_
 exact ⟨rfl, fB2⟩
set_option maxRecDepth 100000 in
set_option maxHeartbeats 400000 in
theorem open2 (nm ns nj : Nat) (CH : List (List Int)) (x : Fs) (js : Nat → Fj) (bc oc cc bs os_ sc bj oj cj : Nat) (sa : Option Addr) (adc : Nat → Option Addr) (kpc : Nat → Nat) (adj : Nat → Option Addr) (kpj : Nat → Nat) (w : World) (hF : FlOk nm ns nj CH x js) (hM : FlR nm ns nj CH js x bc oc bs os_ bj oj sa adc kpc adj kpj w) (h0 : 0 < ns) (b2 : Nat) (hb2 : w.heap[b2]? = some (.cells #[.int .i64 ((nm : Int)), .slice (some ⟨bc, oc, none⟩) (2) (cc), .slice (sa) (ns) (sc)] 29 (0, 0))) :
  Calls Try.prog 92 #[.agg #[.int .i64 x.m, .int .i64 x.f, .int .i64 x.t], .pointer (some ⟨b2, 0, none⟩)] w (fun e w' => e = .returned (.bool false) ∧ Below w.heap.size w w') := by
 refine calls_fr Try.func92 Try.ntmps92 rfl rfl fun g hg => ?_
 have k0 : g 0 = .agg #[.int .i64 x.m, .int .i64 x.f, .int .i64 x.t] := hg 0
 have k1 : g 1 = .pointer (some ⟨b2, 0, none⟩) := hg 1
 clear hg
 have fB0 : Below w.heap.size w w := Below.refl _ _
 have lt_b2 := lt_of_blk hb2
 refine wp_seq_k fun K1 hK1 => ?_
 refine region_dk 2 [(2, 0), (3, 1)] [[], []] (rel [bx 0 #[.int .i64 x.m, .int .i64 x.f, .int .i64 x.t] 34,
   is (.bool false)])
  ⟨bx_k, is_k, trivial⟩
  ⟨fun f s W c d h i j a => opb rfl rfl (by simp [go_sem, a.e 0 k0]),
  fun f s W c d h i j a => opv rfl rfl (by simp [go_sem]) rfl, trivial⟩ ?_
 intro f1 s1 W1 hB1 g1 hg1
 have fB1 := hB1.f fB0
 have z1 := hB1.below.size
 have b1_0 := hB1.b hb2
 obtain ⟨r1_0, br1_0⟩ := hB1.is 0
 have lr1_0 := hB1.lr 0 br1_0
 refine hK1 _ _ ?_
 have k1_1 := kt hg1 1 k1
 have k1_2 := kt hg1 2 r1_0
 have k1_3 := kt hg1 3 (hB1.is 1)
 refine wp_seq_k fun K2 hK2 => ?_
 refine region_dk 5 [(4, 0), (5, 1), (6, 2), (7, 3), (3, 4)] [[], [], [0, 1], [0, 1, 2], [0, 1, 2, 3]] (rel [is (.agg #[.int .i64 ((nm : Int)), .slice (some ⟨bc, oc, none⟩) (2) (cc), .slice (sa) (ns) (sc)]),
   is (.agg #[.int .i64 x.m, .int .i64 x.f, .int .i64 x.t]),
   is (.bool true),
   is (.bool false),
   is (.bool false)])
  ⟨is_k, is_k, is_k, is_k, is_k, trivial⟩
  ⟨fun f s W c d h i j a => opv rfl rfl (by simp [go_sem, a.e 1 k1_1, cb b1_0 c 0, cb b1_0 c 1, cb b1_0 c 2]) rfl,
  fun f s W c d h i j a => opv rfl rfl (by simp [go_sem, a.e 2 k1_2, cb br1_0 c 0, cb br1_0 c 1, cb br1_0 c 2]) rfl,
  fun f s W c d h i j a => by have k := below_trans fB1 c; exact opc (args := #[.agg #[.int .i64 ((nm : Int)), .slice (some ⟨bc, oc, none⟩) (2) (cc), .slice (sa) (ns) (sc)], .agg #[.int .i64 x.m, .int .i64 x.f, .int .i64 x.t]]) rfl rfl (by simp [go_sem, a.e 4 (d 0 rfl), a.e 5 (d 1 rfl)]) (isStop_yes nm ns nj CH x js bc oc cc bs os_ sc bj oj cj sa adc kpc adj kpj W hF (hM.below k) h0),
  fun f s W c d h i j a => opv rfl rfl (by simp [go_sem, a.e 6 (d 2 rfl)]) rfl,
  fun f s W c d h i j a => opv rfl rfl (by simp [go_sem, a.e 7 (d 3 rfl)]) rfl, trivial⟩ ?_
 intro f2 s2 W2 hB2 g2 hg2
 have fB2 := hB2.f fB1
 have z2 := hB2.below.size
 have b2_0 := hB2.b b1_0
 have b2_1 := hB2.b br1_0
 refine hK2 _ _ ?_
 have k2_3 := kt hg2 3 (hB2.is 4)
 refine wp_ret ?_
 refine leave_one (N := 8) (v := .bool false) (.inr rfl) Try.results92 rfl k2_3 ?_
 exact ⟨rfl, fB2⟩
set_option maxRecDepth 100000 in
set_option maxHeartbeats 400000 in
theorem open3 (nm ns nj : Nat) (CH : List (List Int)) (x : Fs) (js : Nat → Fj) (bc oc cc bs os_ sc bj oj cj : Nat) (sa : Option Addr) (adc : Nat → Option Addr) (kpc : Nat → Nat) (adj : Nat → Option Addr) (kpj : Nat → Nat) (i : Nat) (w : World) (hF : FlOk nm ns nj CH x js) (hM : FlR nm ns nj CH js x bc oc bs os_ bj oj sa adc kpc adj kpj w) (hi : i < nj) (b2 : Nat) (hb2 : w.heap[b2]? = some (.cells #[.int .i64 ((nm : Int)), .slice (some ⟨bc, oc, none⟩) (2) (cc), .slice (sa) (ns) (sc)] 29 (0, 0))) :
  Calls Try.prog 95 #[.agg #[.int .i64 (((js i).kd : Int)), .int .i64 ((js i).rd), .int .i64 ((js i).du), .slice ((adj i)) ((js i).ms.length) ((kpj i))], .pointer (some ⟨b2, 0, none⟩)] w (fun e w' => e = .returned (.bool false) ∧ Below w.heap.size w w') := by
 refine calls_fr Try.func95 Try.ntmps95 rfl rfl fun g hg => ?_
 have k0 : g 0 = .agg #[.int .i64 (((js i).kd : Int)), .int .i64 ((js i).rd), .int .i64 ((js i).du), .slice ((adj i)) ((js i).ms.length) ((kpj i))] := hg 0
 have k1 : g 1 = .pointer (some ⟨b2, 0, none⟩) := hg 1
 clear hg
 have fB0 : Below w.heap.size w w := Below.refl _ _
 have lt_b2 := lt_of_blk hb2
 refine wp_seq_k fun K1 hK1 => ?_
 refine region_dk 2 [(2, 0), (3, 1)] [[], []] (rel [bx 0 #[.int .i64 (((js i).kd : Int)), .int .i64 ((js i).rd), .int .i64 ((js i).du), .slice ((adj i)) ((js i).ms.length) ((kpj i))] 32,
   is (.bool false)])
  ⟨bx_k, is_k, trivial⟩
  ⟨fun f s W c d h j k a => opb rfl rfl (by simp [go_sem, a.e 0 k0]),
  fun f s W c d h j k a => opv rfl rfl (by simp [go_sem]) rfl, trivial⟩ ?_
 intro f1 s1 W1 hB1 g1 hg1
 have fB1 := hB1.f fB0
 have z1 := hB1.below.size
 have b1_0 := hB1.b hb2
 obtain ⟨r1_0, br1_0⟩ := hB1.is 0
 have lr1_0 := hB1.lr 0 br1_0
 refine hK1 _ _ ?_
 have k1_1 := kt hg1 1 k1
 have k1_2 := kt hg1 2 r1_0
 have k1_3 := kt hg1 3 (hB1.is 1)
 refine wp_seq_k fun K2 hK2 => ?_
 refine region_dk 5 [(4, 0), (5, 1), (6, 2), (7, 3), (3, 4)] [[], [], [0, 1], [0, 1, 2], [0, 1, 2, 3]] (rel [is (.agg #[.int .i64 ((nm : Int)), .slice (some ⟨bc, oc, none⟩) (2) (cc), .slice (sa) (ns) (sc)]),
   is (.agg #[.int .i64 (((js i).kd : Int)), .int .i64 ((js i).rd), .int .i64 ((js i).du), .slice ((adj i)) ((js i).ms.length) ((kpj i))]),
   is (.bool true),
   is (.bool false),
   is (.bool false)])
  ⟨is_k, is_k, is_k, is_k, is_k, trivial⟩
  ⟨fun f s W c d h j k a => opv rfl rfl (by simp [go_sem, a.e 1 k1_1, cb b1_0 c 0, cb b1_0 c 1, cb b1_0 c 2]) rfl,
  fun f s W c d h j k a => opl rfl rfl rfl (a.v 2 k1_2) (blk_below br1_0 c) Try.underlying32 rfl (by kernel_rfl) rfl,
  fun f s W c d h j k a => by have l := below_trans fB1 c; exact opc (args := #[.agg #[.int .i64 ((nm : Int)), .slice (some ⟨bc, oc, none⟩) (2) (cc), .slice (sa) (ns) (sc)], .agg #[.int .i64 (((js i).kd : Int)), .int .i64 ((js i).rd), .int .i64 ((js i).du), .slice ((adj i)) ((js i).ms.length) ((kpj i))]]) rfl rfl (by simp [go_sem, a.e 4 (d 0 rfl), a.e 5 (d 1 rfl)]) (isJob_yes nm ns nj CH x js bc oc cc bs os_ sc bj oj cj sa adc kpc adj kpj i W hF (hM.below l) hi),
  fun f s W c d h j k a => opv rfl rfl (by simp [go_sem, a.e 6 (d 2 rfl)]) rfl,
  fun f s W c d h j k a => opv rfl rfl (by simp [go_sem, a.e 7 (d 3 rfl)]) rfl, trivial⟩ ?_
 intro f2 s2 W2 hB2 g2 hg2
 have fB2 := hB2.f fB1
 have z2 := hB2.below.size
 have b2_0 := hB2.b b1_0
 have b2_1 := hB2.b br1_0
 refine hK2 _ _ ?_
 have k2_3 := kt hg2 3 (hB2.is 4)
 refine wp_ret ?_
 refine leave_one (N := 8) (v := .bool false) (.inr rfl) Try.results95 rfl k2_3 ?_
 exact ⟨rfl, fB2⟩
set_option maxRecDepth 100000 in
set_option maxHeartbeats 400000 in
theorem open1 (nm ns nj : Nat) (CH : List (List Int)) (x : Fs) (js : Nat → Fj) (bc oc cc bs os_ sc bj oj cj : Nat) (sa : Option Addr) (adc : Nat → Option Addr) (kpc : Nat → Nat) (adj : Nat → Option Addr) (kpj : Nat → Nat) (i : Nat) (w : World) (hF : FlOk nm ns nj CH x js) (hM : FlR nm ns nj CH js x bc oc bs os_ bj oj sa adc kpc adj kpj w) (hi : i < 2) (b2 : Nat) (hb2 : w.heap[b2]? = some (.cells #[.int .i64 ((nm : Int)), .slice (some ⟨bc, oc, none⟩) (2) (cc), .slice (sa) (ns) (sc)] 29 (0, 0))) :
  Calls Try.prog 88 #[.slice ((adc i)) ((rwL CH i).length) ((kpc i)), .pointer (some ⟨b2, 0, none⟩)] w (fun e w' => e = .returned (.bool false) ∧ Below w.heap.size w w') := by
 have gc_ := hF.cr i hi
 have hg_ := gc_.2
 have hc2_ : (((rwL CH i).length : Int) != 2) = false := by rw [gc_.1]; rfl
 refine calls_fr Try.func88 Try.ntmps88 rfl rfl fun g hg => ?_
 have k0 : g 0 = .slice ((adc i)) ((rwL CH i).length) ((kpc i)) := hg 0
 have k1 : g 1 = .pointer (some ⟨b2, 0, none⟩) := hg 1
 clear hg
 have fB0 : Below w.heap.size w w := Below.refl _ _
 have lt_b2 := lt_of_blk hb2
 refine wp_seq_k fun K1 hK1 => ?_
 refine region_dk 1 [(3, 0)] [[]] (rel [is (.bool false)])
  ⟨is_k, trivial⟩
  ⟨fun f s W j k l m n a => opv rfl rfl (by simp [go_sem]) rfl, trivial⟩ ?_
 intro f1 s1 W1 hB1 g1 hg1
 have fB1 := hB1.f fB0
 have z1 := hB1.below.size
 have b1_0 := hB1.b hb2
 refine hK1 _ _ ?_
 have k1_0 := kt hg1 0 k0
 have k1_1 := kt hg1 1 k1
 have k1_3 := kt hg1 3 (hB1.is 0)
 refine wp_seq_k fun K2 hK2 => ?_
 refine region_dk 12 [(4, 0), (5, 1), (6, 2), (7, 3), (8, 4), (9, 5), (10, 6), (11, 7), (12, 8), (13, 9), (14, 10), (3, 11)] [[], [0], [], [2], [2, 3], [0, 1, 2, 3, 4], [0, 1, 2, 3, 4, 5], [0, 1, 2, 3, 4, 5, 6], [0, 1, 2, 3, 4, 5, 6, 7], [0, 1, 2, 3, 4, 5, 6, 7, 8], [0, 1, 2, 3, 4, 5, 6, 7, 8, 9], [0, 1, 2, 3, 4, 5, 6, 7, 8, 9, 10]] (rel [is (.slice ((adc i)) ((rwL CH i).length) ((kpc i))),
   is (.int .i64 (((rwL CH i).length : Int))),
   is (.pointer (some ⟨b2, 1, none⟩)),
   is (.slice (some ⟨bc, oc, none⟩) (2) (cc)),
   is (.int .i64 2),
   is (.bool false),
   is (.bool false),
   is (.slice ((adc i)) ((rwL CH i).length) ((kpc i))),
   is (.bool true),
   is (.bool false),
   is (.bool false),
   is (.bool false)])
  ⟨is_k, is_k, is_k, is_k, is_k, is_k, is_k, is_k, is_k, is_k, is_k, is_k, trivial⟩
  ⟨fun f s W j k l m n a => opv rfl rfl (by simp [go_sem, a.e 0 k1_0]) rfl,
  fun f s W j k l m n a => opv rfl rfl (by simp [go_sem, a.e 4 (k 0 rfl)]) rfl,
  fun f s W j k l m n a => opv rfl rfl (by simp [go_sem, a.e 1 k1_1]) rfl,
  fun f s W j k l m n a => opv rfl rfl (by simp [go_sem, a.e 6 (k 2 rfl), cb b1_0 j 1]) rfl,
  fun f s W j k l m n a => opv rfl rfl (by simp [go_sem, a.e 7 (k 3 rfl)]) rfl,
  fun f s W j k l m n a => opv rfl rfl (by simp [go_sem, a.e 5 (k 1 rfl), a.e 8 (k 4 rfl), hc2_]) rfl,
  fun f s W j k l m n a => opv rfl rfl (by simp [go_sem, a.e 9 (k 5 rfl)]) rfl,
  fun f s W j k l m n a => osure rfl rfl (a.says (d := 10) rfl rfl (k 6 rfl)) (gv (by simp [go_sem, a.e 0 k1_0]) rfl),
  fun f s W j k l m n a => osure rfl rfl (a.says (d := 10) rfl rfl (k 6 rfl)) (by have o := below_trans fB1 j; exact wp_called (args := #[.int .i64 0, .int .i64 500, .slice ((adc i)) ((rwL CH i).length) ((kpc i))]) (by simp [go_sem, a.e 11 (k 7 rfl)]) (fl_within_any (0) (500) ((adc i)) ((rwL CH i).length) ((kpc i)) _ W ((hM.c.below o).2 i hi).2) ((fun e W' h => by have h1 := h.1; rw [fl_within_yes (fun v hv => by have := hg_ v hv; omega)] at h1; exact ⟨_, h1, h.2, rfl⟩))),
  fun f s W j k l m n a => osure rfl rfl (a.says (d := 10) rfl rfl (k 6 rfl)) (gv (by simp [go_sem, a.e 12 (k 8 rfl)]) rfl),
  fun f s W j k l m n a => opk (c := false) rfl rfl (fun _ => by simp [go_sem, a.e 10 (k 6 rfl), a.e 13 (k 9 rfl)]) (fun h => absurd h (by decide)),
  fun f s W j k l m n a => opv rfl rfl (by simp [go_sem, a.e 14 (k 10 rfl)]) rfl, trivial⟩ ?_
 intro f2 s2 W2 hB2 g2 hg2
 have fB2 := hB2.f fB1
 have z2 := hB2.below.size
 have b2_0 := hB2.b b1_0
 refine hK2 _ _ ?_
 have k2_3 := kt hg2 3 (hB2.is 11)
 refine wp_ret ?_
 refine leave_one (N := 15) (v := .bool false) (.inr rfl) Try.results88 rfl k2_3 ?_
 exact ⟨rfl, fB2⟩
set_option maxRecDepth 100000 in
set_option maxHeartbeats 400000 in
theorem index_ch (nm ns nj : Nat) (CH : List (List Int)) (x : Fs) (js : Nat → Fj) (bc oc cc bs os_ sc bj oj cj : Nat) (sa : Option Addr) (adc : Nat → Option Addr) (kpc : Nat → Nat) (adj : Nat → Option Addr) (kpj : Nat → Nat) (w : World) (hF : FlOk nm ns nj CH x js) (hM : FlR nm ns nj CH js x bc oc bs os_ bj oj sa adc kpc adj kpj w) (b2 : Nat) (hb2 : w.heap[b2]? = some (.cells #[.int .i64 ((nm : Int)), .slice (some ⟨bc, oc, none⟩) (2) (cc), .slice (sa) (ns) (sc)] 29 (0, 0))) :
  Calls Try.prog 131 #[.slice (some ⟨bc, oc, none⟩) (2) (cc), .func (.func 88) #[] #[.pointer (some ⟨b2, 0, none⟩)]] w (fun e w' => e = .returned (.int .i64 (-1)) ∧ Below w.heap.size w w') := by
 have g1_ := hF.nsB
 have g2_ := hF.njB
 refine calls_fr Try.func131 Try.ntmps131 rfl rfl fun g hg => ?_
 have k0 : g 0 = .slice (some ⟨bc, oc, none⟩) (2) (cc) := hg 0
 have k1 : g 1 = .func (.func 88) #[] #[.pointer (some ⟨b2, 0, none⟩)] := hg 1
 clear hg
 have fB0 : Below w.heap.size w w := Below.refl _ _
 have lt_b2 := lt_of_blk hb2
 refine wp_seq_k fun K1 hK1 => ?_
 refine region_dk 1 [(4, 0)] [[]] (rel [is (.int .i64 0)])
  ⟨is_k, trivial⟩
  ⟨fun f s W d h i j l a => opv rfl rfl (by simp [go_sem]) rfl, trivial⟩ ?_
 intro f1 s1 W1 hB1 g1 hg1
 have fB1 := hB1.f fB0
 have z1 := hB1.below.size
 have b1_0 := hB1.b hb2
 refine hK1 _ _ ?_
 have k1_0 := kt hg1 0 k0
 have k1_1 := kt hg1 1 k1
 have k1_4 := kt hg1 4 (hB1.is 0)
 refine wp_seq_k fun K2 hK2 => ?_
 refine wp_seq_k fun K3 hK3 => ?_
 refine region_dk 3 [(6, 0), (7, 1), (8, 2)] [[], [0], []] (rel [is (.slice (some ⟨bc, oc, none⟩) (2) (cc)),
   is (.int .i64 2),
   is (.int .i64 0)])
  ⟨is_k, is_k, is_k, trivial⟩
  ⟨fun f s W d h i j l a => opv rfl rfl (by simp [go_sem, a.e 0 k1_0]) rfl,
  fun f s W d h i j l a => opv rfl rfl (by simp [go_sem, a.e 6 (h 0 rfl)]) rfl,
  fun f s W d h i j l a => opv rfl rfl (by simp [go_sem]) rfl, trivial⟩ ?_
 intro f2 s2 W2 hB2 g2 hg2
 have fB2 := hB2.f fB1
 have z2 := hB2.below.size
 have b2_0 := hB2.b b1_0
 refine hK3 _ _ ?_
 have k2_0 := kt hg2 0 k1_0
 have k2_1 := kt hg2 1 k1_1
 have k2_4 := kt hg2 4 k1_4
 have k2_7 := kt hg2 7 (hB2.is 1)
 have k2_8 := kt hg2 8 (hB2.is 2)
 refine wp_block ?_
 refine wp_loop_n (fun m_ a_ W_ => ∃ g_ : Nat → Value, a_ = fr 19 g_ ∧ (∃ k : Nat, m_ = 2 - k ∧ g_ 0 = .slice (some ⟨bc, oc, none⟩) (2) (cc) ∧ g_ 1 = .func (.func 88) #[] #[.pointer (some ⟨b2, 0, none⟩)] ∧ g_ 4 = .int .i64 0 ∧ g_ 7 = .int .i64 2 ∧ g_ 8 = .int .i64 ((k : Int)) ∧ Below w.heap.size w W_ ∧ W2.heap.size ≤ W_.heap.size ∧ W_.heap[b2]? = some (.cells #[.int .i64 ((nm : Int)), .slice (some ⟨bc, oc, none⟩) (2) (cc), .slice (sa) (ns) (sc)] 29 (0, 0)) ∧ (k ≤ 2))) ⟨_, g2, rfl, 0, rfl, k2_0, k2_1, k2_4, k2_7, k2_8.trans (by rfl), fB2, Nat.le_refl _, b2_0, (by omega)⟩ ?_
 rintro _ _ W_1 ⟨g_1, rfl, k, rfl, k_1_0, k_1_1, k_1_4, k_1_7, k_1_8, fB_1, z_1, b_1_0, lk0⟩
 refine wp_seq_k fun K4 hK4 => ?_
 refine region_dk 1 [(9, 0)] [[]] (rel [is (.bool (decide ((k : Int) < 2)))])
  ⟨is_k, trivial⟩
  ⟨fun f s W d h i j l a => opv rfl rfl (by simp [go_sem, a.e 8 k_1_8, a.e 7 k_1_7]) rfl, trivial⟩ ?_
 intro f3 s3 W3 hB3 g3 hg3
 have fB3 := hB3.f fB_1
 have z3 := hB3.below.size
 have b3_0 := hB3.b b_1_0
 refine hK4 _ _ ?_
 have k3_0 := kt hg3 0 k_1_0
 have k3_1 := kt hg3 1 k_1_1
 have k3_4 := kt hg3 4 k_1_4
 have k3_7 := kt hg3 7 k_1_7
 have k3_8 := kt hg3 8 k_1_8
 have k3_9 := kt hg3 9 (hB3.is 0)
 refine wp_seq_k fun K5 hK5 => ?_
 refine wp_cond_split (t := decide ((k : Int) < 2)) ((fr_eval rfl).trans k3_9) (fun hc6 => ?_) (fun hc6 => ?_)
 ·
  have hc6' := hc6; try simp only [ba] at hc6'
  have hkn : k < 2 := by omega
  refine wp_skip ?_
  refine hK5 _ _ ?_
  refine wp_seq_k fun K7 hK7 => ?_
  refine wp_block ?_
  refine wp_seq_k fun K8 hK8 => ?_
  refine region_dk 2 [(10, 0), (5, 1)] [[], [0]] (rel [is (.int .i64 ((k : Int))),
   is (.int .i64 ((k : Int)))])
   ⟨is_k, is_k, trivial⟩
   ⟨fun f s W d h i j l a => opv rfl rfl (by simp [go_sem, a.e 8 k3_8]) rfl,
  fun f s W d h i j l a => opv rfl rfl (by simp [go_sem, a.e 10 (h 0 rfl)]) rfl, trivial⟩ ?_
  intro f4 s4 W4 hB4 g4 hg4
  have fB4 := hB4.f fB3
  have z4 := hB4.below.size
  have b4_0 := hB4.b b3_0
  refine hK8 _ _ ?_
  have k4_0 := kt hg4 0 k3_0
  have k4_1 := kt hg4 1 k3_1
  have k4_4 := kt hg4 4 k3_4
  have k4_7 := kt hg4 7 k3_7
  have k4_8 := kt hg4 8 k3_8
  have k4_5 := kt hg4 5 (hB4.is 1)
  refine wp_seq_k fun K9 hK9 => ?_
  refine region_dk 6 [(11, 0), (12, 1), (13, 2), (14, 3), (15, 4), (16, 5)] [[], [], [], [1, 2], [1, 2, 3], [0, 1, 2, 3, 4]] (rel [is (.func (.func 88) #[] #[.pointer (some ⟨b2, 0, none⟩)]),
   is (.slice (some ⟨bc, oc, none⟩) (2) (cc)),
   is (.int .i64 ((k : Int))),
   is (.pointer (some ⟨bc, oc + k, none⟩)),
   is (.slice ((adc k)) ((rwL CH k).length) ((kpc k))),
   is (.bool false)])
   ⟨is_k, is_k, is_k, is_k, is_k, is_k, trivial⟩
   ⟨fun f s W d h i j l a => opv rfl rfl (by simp [go_sem, a.e 1 k4_1]) rfl,
  fun f s W d h i j l a => opv rfl rfl (by simp [go_sem, a.e 0 k4_0]) rfl,
  fun f s W d h i j l a => opv rfl rfl (by simp [go_sem, a.e 5 k4_5]) rfl,
  fun f s W d h i j l a => by have li_ := Nat.not_le.2 (show k < 2 by omega); have li2_ : (k : Int) < (2 : Int) := (by omega); exact opv rfl rfl (by simp [go_sem, a.e 12 (h 1 rfl), a.e 13 (h 2 rfl), li_, li2_]) rfl,
  fun f s W d h i j l a => by have m := below_trans fB4 d; have cu_ := ((hM.c.below m).2 k (by omega)).1; exact opv rfl rfl (by simp [go_sem, a.e 14 (h 3 rfl), cu_]) rfl,
  fun f s W d h i j l a => by have m := below_trans fB4 d; exact opc (args := #[.slice ((adc k)) ((rwL CH k).length) ((kpc k)), .pointer (some ⟨b2, 0, none⟩)]) rfl rfl (by simp [go_sem, a.e 15 (h 4 rfl), a.e 11 (h 0 rfl)]) (open1 nm ns nj CH x js bc oc cc bs os_ sc bj oj cj sa adc kpc adj kpj k W hF (hM.below m) (by omega) b2 (blk_below b4_0 d)), trivial⟩ ?_
  intro f5 s5 W5 hB5 g5 hg5
  have fB5 := hB5.f fB4
  have z5 := hB5.below.size
  have b5_0 := hB5.b b4_0
  refine hK9 _ _ ?_
  have k5_0 := kt hg5 0 k4_0
  have k5_1 := kt hg5 1 k4_1
  have k5_4 := kt hg5 4 k4_4
  have k5_7 := kt hg5 7 k4_7
  have k5_8 := kt hg5 8 k4_8
  have k5_5 := kt hg5 5 k4_5
  have k5_16 := kt hg5 16 (hB5.is 5)
  refine wp_cond_false ((fr_eval rfl).trans k5_16) ?_
  refine wp_skip ?_
  refine inBlock_normal ?_
  refine hK7 _ _ ?_
  refine region_dk 2 [(18, 0), (8, 1)] [[], [0]] (rel [is (.int .i64 ((k : Int) + 1)),
   is (.int .i64 ((k : Int) + 1))])
   ⟨is_k, is_k, trivial⟩
   ⟨fun f s W d h i j l a => opv rfl rfl (by simp [go_sem, a.e 8 ((j 1 8 rfl rfl).trans k5_8), IntWalk.i64_in ((k : Int) + 1) (by omega)]) rfl,
  fun f s W d h i j l a => opv rfl rfl (by simp [go_sem, a.e 18 (h 0 rfl)]) rfl, trivial⟩ ?_
  intro f6 s6 W6 hB6 g6 hg6
  have fB6 := hB6.f fB5
  have z6 := hB6.below.size
  have b6_0 := hB6.b b5_0
  refine wpOps_end ?_
  have k6_0 := kt hg6 0 k5_0
  have k6_1 := kt hg6 1 k5_1
  have k6_4 := kt hg6 4 k5_4
  have k6_7 := kt hg6 7 k5_7
  have k6_8 := kt hg6 8 (hB6.is 1)
  refine then_normal ?_
  exact ⟨_, by omega, g6, rfl, k + 1, rfl, k6_0, k6_1, k6_4, k6_7, k6_8.trans (by go_num), fB6, (by omega), b6_0, (by omega)⟩
 ·
  have hc6' := hc6; try simp only [ba] at hc6'
  refine wp_exit ?_
  refine then_exit ?_
  refine then_exit ?_
  refine inBlock_at ?_
  refine hK2 _ _ ?_
  refine wp_seq_k fun K11 hK11 => ?_
  refine region_dk 1 [(4, 0)] [[]] (rel [is (.int .i64 (-1))])
   ⟨is_k, trivial⟩
   ⟨fun f s W d h i j l a => opv rfl rfl (by simp [go_sem]) rfl, trivial⟩ ?_
  intro f7 s7 W7 hB7 g7 hg7
  have fB7 := hB7.f fB3
  have z7 := hB7.below.size
  have b7_0 := hB7.b b3_0
  refine hK11 _ _ ?_
  have k7_4 := kt hg7 4 (hB7.is 0)
  refine wp_ret ?_
  refine leave_one (N := 19) (v := .int .i64 (-1)) (.inr rfl) Try.results131 rfl k7_4 ?_
  exact ⟨rfl, fB7⟩
set_option maxRecDepth 100000 in
set_option maxHeartbeats 400000 in
theorem contains_ch (nm ns nj : Nat) (CH : List (List Int)) (x : Fs) (js : Nat → Fj) (bc oc cc bs os_ sc bj oj cj : Nat) (sa : Option Addr) (adc : Nat → Option Addr) (kpc : Nat → Nat) (adj : Nat → Option Addr) (kpj : Nat → Nat) (w : World) (hF : FlOk nm ns nj CH x js) (hM : FlR nm ns nj CH js x bc oc bs os_ bj oj sa adc kpc adj kpj w) (b2 : Nat) (hb2 : w.heap[b2]? = some (.cells #[.int .i64 ((nm : Int)), .slice (some ⟨bc, oc, none⟩) (2) (cc), .slice (sa) (ns) (sc)] 29 (0, 0))) :
  Calls Try.prog 90 #[.slice (some ⟨bc, oc, none⟩) (2) (cc), .func (.func 88) #[] #[.pointer (some ⟨b2, 0, none⟩)]] w (fun e w' => e = .returned (.bool false) ∧ Below w.heap.size w w') := by
 refine calls_fr Try.func90 Try.ntmps90 rfl rfl fun g hg => ?_
 have k0 : g 0 = .slice (some ⟨bc, oc, none⟩) (2) (cc) := hg 0
 have k1 : g 1 = .func (.func 88) #[] #[.pointer (some ⟨b2, 0, none⟩)] := hg 1
 clear hg
 have fB0 : Below w.heap.size w w := Below.refl _ _
 have lt_b2 := lt_of_blk hb2
 refine wp_seq_k fun K1 hK1 => ?_
 refine region_dk 1 [(4, 0)] [[]] (rel [is (.bool false)])
  ⟨is_k, trivial⟩
  ⟨fun f s W c d h i j a => opv rfl rfl (by simp [go_sem]) rfl, trivial⟩ ?_
 intro f1 s1 W1 hB1 g1 hg1
 have fB1 := hB1.f fB0
 have z1 := hB1.below.size
 have b1_0 := hB1.b hb2
 refine hK1 _ _ ?_
 have k1_0 := kt hg1 0 k0
 have k1_1 := kt hg1 1 k1
 have k1_4 := kt hg1 4 (hB1.is 0)
 refine wp_seq_k fun K2 hK2 => ?_
 refine region_dk 5 [(5, 0), (6, 1), (7, 2), (8, 3), (4, 4)] [[], [], [0, 1], [0, 1, 2], [0, 1, 2, 3]] (rel [is (.slice (some ⟨bc, oc, none⟩) (2) (cc)),
   is (.func (.func 88) #[] #[.pointer (some ⟨b2, 0, none⟩)]),
   is (.int .i64 (-1)),
   is (.bool false),
   is (.bool false)])
  ⟨is_k, is_k, is_k, is_k, is_k, trivial⟩
  ⟨fun f s W c d h i j a => opv rfl rfl (by simp [go_sem, a.e 0 k1_0]) rfl,
  fun f s W c d h i j a => opv rfl rfl (by simp [go_sem, a.e 1 k1_1]) rfl,
  fun f s W c d h i j a => by have k := below_trans fB1 c; exact opc (args := #[.slice (some ⟨bc, oc, none⟩) (2) (cc), .func (.func 88) #[] #[.pointer (some ⟨b2, 0, none⟩)]]) rfl rfl (by simp [go_sem, a.e 5 (d 0 rfl), a.e 6 (d 1 rfl)]) (index_ch nm ns nj CH x js bc oc cc bs os_ sc bj oj cj sa adc kpc adj kpj W hF (hM.below k) b2 (blk_below b1_0 c)),
  fun f s W c d h i j a => opv rfl rfl (by simp [go_sem, a.e 7 (d 2 rfl)]) rfl,
  fun f s W c d h i j a => opv rfl rfl (by simp [go_sem, a.e 8 (d 3 rfl)]) rfl, trivial⟩ ?_
 intro f2 s2 W2 hB2 g2 hg2
 have fB2 := hB2.f fB1
 have z2 := hB2.below.size
 have b2_0 := hB2.b b1_0
 refine hK2 _ _ ?_
 have k2_4 := kt hg2 4 (hB2.is 4)
 refine wp_ret ?_
 refine leave_one (N := 9) (v := .bool false) (.inr rfl) Try.results90 rfl k2_4 ?_
 exact ⟨rfl, fB2⟩
set_option maxRecDepth 100000 in
set_option maxHeartbeats 400000 in
theorem index_st (nm ns nj : Nat) (CH : List (List Int)) (x : Fs) (js : Nat → Fj) (bc oc cc bs os_ sc bj oj cj : Nat) (sa : Option Addr) (adc : Nat → Option Addr) (kpc : Nat → Nat) (adj : Nat → Option Addr) (kpj : Nat → Nat) (w : World) (hF : FlOk nm ns nj CH x js) (hM : FlR nm ns nj CH js x bc oc bs os_ bj oj sa adc kpc adj kpj w) (b2 : Nat) (hb2 : w.heap[b2]? = some (.cells #[.int .i64 ((nm : Int)), .slice (some ⟨bc, oc, none⟩) (2) (cc), .slice (sa) (ns) (sc)] 29 (0, 0))) :
  Calls Try.prog 132 #[.slice (sa) (ns) (sc), .func (.func 92) #[] #[.pointer (some ⟨b2, 0, none⟩)]] w (fun e w' => e = .returned (.int .i64 (-1)) ∧ Below w.heap.size w w') := by
 have g1_ := hF.nsB
 have g2_ := hF.njB
 refine calls_fr Try.func132 Try.ntmps132 rfl rfl fun g hg => ?_
 have k0 : g 0 = .slice (sa) (ns) (sc) := hg 0
 have k1 : g 1 = .func (.func 92) #[] #[.pointer (some ⟨b2, 0, none⟩)] := hg 1
 clear hg
 have fB0 : Below w.heap.size w w := Below.refl _ _
 have lt_b2 := lt_of_blk hb2
 refine wp_seq_k fun K1 hK1 => ?_
 refine region_dk 1 [(4, 0)] [[]] (rel [is (.int .i64 0)])
  ⟨is_k, trivial⟩
  ⟨fun f s W c d h i j a => opv rfl rfl (by simp [go_sem]) rfl, trivial⟩ ?_
 intro f1 s1 W1 hB1 g1 hg1
 have fB1 := hB1.f fB0
 have z1 := hB1.below.size
 have b1_0 := hB1.b hb2
 refine hK1 _ _ ?_
 have k1_0 := kt hg1 0 k0
 have k1_1 := kt hg1 1 k1
 have k1_4 := kt hg1 4 (hB1.is 0)
 refine wp_seq_k fun K2 hK2 => ?_
 refine wp_seq_k fun K3 hK3 => ?_
 refine region_dk 3 [(6, 0), (7, 1), (8, 2)] [[], [0], []] (rel [is (.slice (sa) (ns) (sc)),
   is (.int .i64 ((ns : Int))),
   is (.int .i64 0)])
  ⟨is_k, is_k, is_k, trivial⟩
  ⟨fun f s W c d h i j a => opv rfl rfl (by simp [go_sem, a.e 0 k1_0]) rfl,
  fun f s W c d h i j a => opv rfl rfl (by simp [go_sem, a.e 6 (d 0 rfl)]) rfl,
  fun f s W c d h i j a => opv rfl rfl (by simp [go_sem]) rfl, trivial⟩ ?_
 intro f2 s2 W2 hB2 g2 hg2
 have fB2 := hB2.f fB1
 have z2 := hB2.below.size
 have b2_0 := hB2.b b1_0
 refine hK3 _ _ ?_
 have k2_0 := kt hg2 0 k1_0
 have k2_1 := kt hg2 1 k1_1
 have k2_4 := kt hg2 4 k1_4
 have k2_7 := kt hg2 7 (hB2.is 1)
 have k2_8 := kt hg2 8 (hB2.is 2)
 refine wp_block ?_
 refine wp_loop_n (fun m_ a_ W_ => ∃ g_ : Nat → Value, a_ = fr 19 g_ ∧ (∃ k : Nat, m_ = ns - k ∧ g_ 0 = .slice (sa) (ns) (sc) ∧ g_ 1 = .func (.func 92) #[] #[.pointer (some ⟨b2, 0, none⟩)] ∧ g_ 4 = .int .i64 0 ∧ g_ 7 = .int .i64 ((ns : Int)) ∧ g_ 8 = .int .i64 ((k : Int)) ∧ Below w.heap.size w W_ ∧ W2.heap.size ≤ W_.heap.size ∧ W_.heap[b2]? = some (.cells #[.int .i64 ((nm : Int)), .slice (some ⟨bc, oc, none⟩) (2) (cc), .slice (sa) (ns) (sc)] 29 (0, 0)) ∧ (k ≤ ns))) ⟨_, g2, rfl, 0, rfl, k2_0, k2_1, k2_4, k2_7, k2_8.trans (by rfl), fB2, Nat.le_refl _, b2_0, (by omega)⟩ ?_
 rintro _ _ W_2 ⟨g_2, rfl, k, rfl, k_2_0, k_2_1, k_2_4, k_2_7, k_2_8, fB_2, z_2, b_2_0, lk0⟩
 refine wp_seq_k fun K4 hK4 => ?_
 refine region_dk 1 [(9, 0)] [[]] (rel [is (.bool (decide ((k : Int) < (ns : Int))))])
  ⟨is_k, trivial⟩
  ⟨fun f s W c d h i j a => opv rfl rfl (by simp [go_sem, a.e 8 k_2_8, a.e 7 k_2_7]) rfl, trivial⟩ ?_
 intro f3 s3 W3 hB3 g3 hg3
 have fB3 := hB3.f fB_2
 have z3 := hB3.below.size
 have b3_0 := hB3.b b_2_0
 refine hK4 _ _ ?_
 have k3_0 := kt hg3 0 k_2_0
 have k3_1 := kt hg3 1 k_2_1
 have k3_4 := kt hg3 4 k_2_4
 have k3_7 := kt hg3 7 k_2_7
 have k3_8 := kt hg3 8 k_2_8
 have k3_9 := kt hg3 9 (hB3.is 0)
 refine wp_seq_k fun K5 hK5 => ?_
 refine wp_cond_split (t := decide ((k : Int) < (ns : Int))) ((fr_eval rfl).trans k3_9) (fun hc6 => ?_) (fun hc6 => ?_)
 ·
  have hc6' := hc6; try simp only [ba] at hc6'
  have hkn : k < ns := by omega
  have h0 : 0 < ns := by omega
  refine wp_skip ?_
  refine hK5 _ _ ?_
  refine wp_seq_k fun K7 hK7 => ?_
  refine wp_block ?_
  refine wp_seq_k fun K8 hK8 => ?_
  refine region_dk 2 [(10, 0), (5, 1)] [[], [0]] (rel [is (.int .i64 ((k : Int))),
   is (.int .i64 ((k : Int)))])
   ⟨is_k, is_k, trivial⟩
   ⟨fun f s W c d h i j a => opv rfl rfl (by simp [go_sem, a.e 8 k3_8]) rfl,
  fun f s W c d h i j a => opv rfl rfl (by simp [go_sem, a.e 10 (d 0 rfl)]) rfl, trivial⟩ ?_
  intro f4 s4 W4 hB4 g4 hg4
  have fB4 := hB4.f fB3
  have z4 := hB4.below.size
  have b4_0 := hB4.b b3_0
  refine hK8 _ _ ?_
  have k4_0 := kt hg4 0 k3_0
  have k4_1 := kt hg4 1 k3_1
  have k4_4 := kt hg4 4 k3_4
  have k4_7 := kt hg4 7 k3_7
  have k4_8 := kt hg4 8 k3_8
  have k4_5 := kt hg4 5 (hB4.is 1)
  refine wp_seq_k fun K9 hK9 => ?_
  refine region_dk 6 [(11, 0), (12, 1), (13, 2), (14, 3), (15, 4), (16, 5)] [[], [], [], [1, 2], [1, 2, 3], [0, 1, 2, 3, 4]] (rel [is (.func (.func 92) #[] #[.pointer (some ⟨b2, 0, none⟩)]),
   is (.slice (sa) (ns) (sc)),
   is (.int .i64 ((k : Int))),
   is (.pointer (some ⟨bs, os_ + k * 3, none⟩)),
   is (.agg #[.int .i64 x.m, .int .i64 x.f, .int .i64 x.t]),
   is (.bool false)])
   ⟨is_k, is_k, is_k, is_k, is_k, is_k, trivial⟩
   ⟨fun f s W c d h i j a => opv rfl rfl (by simp [go_sem, a.e 1 k4_1]) rfl,
  fun f s W c d h i j a => opv rfl rfl (by simp [go_sem, a.e 0 k4_0]) rfl,
  fun f s W c d h i j a => opv rfl rfl (by simp [go_sem, a.e 5 k4_5]) rfl,
  fun f s W c d h i j a => by have l := below_trans fB4 c; have li_ := Nat.not_le.2 (show k < ns by omega); have li2_ : (k : Int) < (ns : Int) := (by omega); have hab := (hM.s.below l h0).1; exact opv rfl rfl (by simp [go_sem, a.e 12 (d 1 rfl), a.e 13 (d 2 rfl), li_, li2_, hab]) rfl,
  fun f s W c d h i j a => by have l := below_trans fB4 c; obtain ⟨-, -, cu0_, cu1_, cu2_⟩ := (hM.s.below l) h0; have hz0_ : os_ + k * 3 = os_ := (by omega); exact opv rfl rfl (by simp [go_sem, a.e 14 (d 3 rfl), cu0_, cu1_, cu2_, hz0_]) rfl,
  fun f s W c d h i j a => by have l := below_trans fB4 c; exact opc (args := #[.agg #[.int .i64 x.m, .int .i64 x.f, .int .i64 x.t], .pointer (some ⟨b2, 0, none⟩)]) rfl rfl (by simp [go_sem, a.e 15 (d 4 rfl), a.e 11 (d 0 rfl)]) (open2 nm ns nj CH x js bc oc cc bs os_ sc bj oj cj sa adc kpc adj kpj W hF (hM.below l) h0 b2 (blk_below b4_0 c)), trivial⟩ ?_
  intro f5 s5 W5 hB5 g5 hg5
  have fB5 := hB5.f fB4
  have z5 := hB5.below.size
  have b5_0 := hB5.b b4_0
  refine hK9 _ _ ?_
  have k5_0 := kt hg5 0 k4_0
  have k5_1 := kt hg5 1 k4_1
  have k5_4 := kt hg5 4 k4_4
  have k5_7 := kt hg5 7 k4_7
  have k5_8 := kt hg5 8 k4_8
  have k5_5 := kt hg5 5 k4_5
  have k5_16 := kt hg5 16 (hB5.is 5)
  refine wp_cond_false ((fr_eval rfl).trans k5_16) ?_
  refine wp_skip ?_
  refine inBlock_normal ?_
  refine hK7 _ _ ?_
  refine region_dk 2 [(18, 0), (8, 1)] [[], [0]] (rel [is (.int .i64 ((k : Int) + 1)),
   is (.int .i64 ((k : Int) + 1))])
   ⟨is_k, is_k, trivial⟩
   ⟨fun f s W c d h i j a => opv rfl rfl (by simp [go_sem, a.e 8 ((i 1 8 rfl rfl).trans k5_8), IntWalk.i64_in ((k : Int) + 1) (by omega)]) rfl,
  fun f s W c d h i j a => opv rfl rfl (by simp [go_sem, a.e 18 (d 0 rfl)]) rfl, trivial⟩ ?_
  intro f6 s6 W6 hB6 g6 hg6
  have fB6 := hB6.f fB5
  have z6 := hB6.below.size
  have b6_0 := hB6.b b5_0
  refine wpOps_end ?_
  have k6_0 := kt hg6 0 k5_0
  have k6_1 := kt hg6 1 k5_1
  have k6_4 := kt hg6 4 k5_4
  have k6_7 := kt hg6 7 k5_7
  have k6_8 := kt hg6 8 (hB6.is 1)
  refine then_normal ?_
  exact ⟨_, by omega, g6, rfl, k + 1, rfl, k6_0, k6_1, k6_4, k6_7, k6_8.trans (by go_num), fB6, (by omega), b6_0, (by omega)⟩
 ·
  have hc6' := hc6; try simp only [ba] at hc6'
  refine wp_exit ?_
  refine then_exit ?_
  refine then_exit ?_
  refine inBlock_at ?_
  refine hK2 _ _ ?_
  refine wp_seq_k fun K11 hK11 => ?_
  refine region_dk 1 [(4, 0)] [[]] (rel [is (.int .i64 (-1))])
   ⟨is_k, trivial⟩
   ⟨fun f s W c d h i j a => opv rfl rfl (by simp [go_sem]) rfl, trivial⟩ ?_
  intro f7 s7 W7 hB7 g7 hg7
  have fB7 := hB7.f fB3
  have z7 := hB7.below.size
  have b7_0 := hB7.b b3_0
  refine hK11 _ _ ?_
  have k7_4 := kt hg7 4 (hB7.is 0)
  refine wp_ret ?_
  refine leave_one (N := 19) (v := .int .i64 (-1)) (.inr rfl) Try.results132 rfl k7_4 ?_
  exact ⟨rfl, fB7⟩
set_option maxRecDepth 100000 in
set_option maxHeartbeats 400000 in
theorem contains_st (nm ns nj : Nat) (CH : List (List Int)) (x : Fs) (js : Nat → Fj) (bc oc cc bs os_ sc bj oj cj : Nat) (sa : Option Addr) (adc : Nat → Option Addr) (kpc : Nat → Nat) (adj : Nat → Option Addr) (kpj : Nat → Nat) (w : World) (hF : FlOk nm ns nj CH x js) (hM : FlR nm ns nj CH js x bc oc bs os_ bj oj sa adc kpc adj kpj w) (b2 : Nat) (hb2 : w.heap[b2]? = some (.cells #[.int .i64 ((nm : Int)), .slice (some ⟨bc, oc, none⟩) (2) (cc), .slice (sa) (ns) (sc)] 29 (0, 0))) :
  Calls Try.prog 91 #[.slice (sa) (ns) (sc), .func (.func 92) #[] #[.pointer (some ⟨b2, 0, none⟩)]] w (fun e w' => e = .returned (.bool false) ∧ Below w.heap.size w w') := by
 refine calls_fr Try.func91 Try.ntmps91 rfl rfl fun g hg => ?_
 have k0 : g 0 = .slice (sa) (ns) (sc) := hg 0
 have k1 : g 1 = .func (.func 92) #[] #[.pointer (some ⟨b2, 0, none⟩)] := hg 1
 clear hg
 have fB0 : Below w.heap.size w w := Below.refl _ _
 have lt_b2 := lt_of_blk hb2
 refine wp_seq_k fun K1 hK1 => ?_
 refine region_dk 1 [(4, 0)] [[]] (rel [is (.bool false)])
  ⟨is_k, trivial⟩
  ⟨fun f s W c d h i j a => opv rfl rfl (by simp [go_sem]) rfl, trivial⟩ ?_
 intro f1 s1 W1 hB1 g1 hg1
 have fB1 := hB1.f fB0
 have z1 := hB1.below.size
 have b1_0 := hB1.b hb2
 refine hK1 _ _ ?_
 have k1_0 := kt hg1 0 k0
 have k1_1 := kt hg1 1 k1
 have k1_4 := kt hg1 4 (hB1.is 0)
 refine wp_seq_k fun K2 hK2 => ?_
 refine region_dk 5 [(5, 0), (6, 1), (7, 2), (8, 3), (4, 4)] [[], [], [0, 1], [0, 1, 2], [0, 1, 2, 3]] (rel [is (.slice (sa) (ns) (sc)),
   is (.func (.func 92) #[] #[.pointer (some ⟨b2, 0, none⟩)]),
   is (.int .i64 (-1)),
   is (.bool false),
   is (.bool false)])
  ⟨is_k, is_k, is_k, is_k, is_k, trivial⟩
  ⟨fun f s W c d h i j a => opv rfl rfl (by simp [go_sem, a.e 0 k1_0]) rfl,
  fun f s W c d h i j a => opv rfl rfl (by simp [go_sem, a.e 1 k1_1]) rfl,
  fun f s W c d h i j a => by have k := below_trans fB1 c; exact opc (args := #[.slice (sa) (ns) (sc), .func (.func 92) #[] #[.pointer (some ⟨b2, 0, none⟩)]]) rfl rfl (by simp [go_sem, a.e 5 (d 0 rfl), a.e 6 (d 1 rfl)]) (index_st nm ns nj CH x js bc oc cc bs os_ sc bj oj cj sa adc kpc adj kpj W hF (hM.below k) b2 (blk_below b1_0 c)),
  fun f s W c d h i j a => opv rfl rfl (by simp [go_sem, a.e 7 (d 2 rfl)]) rfl,
  fun f s W c d h i j a => opv rfl rfl (by simp [go_sem, a.e 8 (d 3 rfl)]) rfl, trivial⟩ ?_
 intro f2 s2 W2 hB2 g2 hg2
 have fB2 := hB2.f fB1
 have z2 := hB2.below.size
 have b2_0 := hB2.b b1_0
 refine hK2 _ _ ?_
 have k2_4 := kt hg2 4 (hB2.is 4)
 refine wp_ret ?_
 refine leave_one (N := 9) (v := .bool false) (.inr rfl) Try.results91 rfl k2_4 ?_
 exact ⟨rfl, fB2⟩
set_option maxRecDepth 100000 in
set_option maxHeartbeats 400000 in
theorem index_jb (nm ns nj : Nat) (CH : List (List Int)) (x : Fs) (js : Nat → Fj) (bc oc cc bs os_ sc bj oj cj : Nat) (sa : Option Addr) (adc : Nat → Option Addr) (kpc : Nat → Nat) (adj : Nat → Option Addr) (kpj : Nat → Nat) (w : World) (hF : FlOk nm ns nj CH x js) (hM : FlR nm ns nj CH js x bc oc bs os_ bj oj sa adc kpc adj kpj w) (b2 : Nat) (hb2 : w.heap[b2]? = some (.cells #[.int .i64 ((nm : Int)), .slice (some ⟨bc, oc, none⟩) (2) (cc), .slice (sa) (ns) (sc)] 29 (0, 0))) :
  Calls Try.prog 134 #[.slice (some ⟨bj, oj, none⟩) (nj) (cj), .func (.func 95) #[] #[.pointer (some ⟨b2, 0, none⟩)]] w (fun e w' => e = .returned (.int .i64 (-1)) ∧ Below w.heap.size w w') := by
 have g1_ := hF.nsB
 have g2_ := hF.njB
 refine calls_fr Try.func134 Try.ntmps134 rfl rfl fun g hg => ?_
 have k0 : g 0 = .slice (some ⟨bj, oj, none⟩) (nj) (cj) := hg 0
 have k1 : g 1 = .func (.func 95) #[] #[.pointer (some ⟨b2, 0, none⟩)] := hg 1
 clear hg
 have fB0 : Below w.heap.size w w := Below.refl _ _
 have lt_b2 := lt_of_blk hb2
 refine wp_seq_k fun K1 hK1 => ?_
 refine region_dk 1 [(4, 0)] [[]] (rel [is (.int .i64 0)])
  ⟨is_k, trivial⟩
  ⟨fun f s W c d h i l a => opv rfl rfl (by simp [go_sem]) rfl, trivial⟩ ?_
 intro f1 s1 W1 hB1 g1 hg1
 have fB1 := hB1.f fB0
 have z1 := hB1.below.size
 have b1_0 := hB1.b hb2
 refine hK1 _ _ ?_
 have k1_0 := kt hg1 0 k0
 have k1_1 := kt hg1 1 k1
 have k1_4 := kt hg1 4 (hB1.is 0)
 refine wp_seq_k fun K2 hK2 => ?_
 refine wp_seq_k fun K3 hK3 => ?_
 refine region_dk 3 [(6, 0), (7, 1), (8, 2)] [[], [0], []] (rel [is (.slice (some ⟨bj, oj, none⟩) (nj) (cj)),
   is (.int .i64 ((nj : Int))),
   is (.int .i64 0)])
  ⟨is_k, is_k, is_k, trivial⟩
  ⟨fun f s W c d h i l a => opv rfl rfl (by simp [go_sem, a.e 0 k1_0]) rfl,
  fun f s W c d h i l a => opv rfl rfl (by simp [go_sem, a.e 6 (d 0 rfl)]) rfl,
  fun f s W c d h i l a => opv rfl rfl (by simp [go_sem]) rfl, trivial⟩ ?_
 intro f2 s2 W2 hB2 g2 hg2
 have fB2 := hB2.f fB1
 have z2 := hB2.below.size
 have b2_0 := hB2.b b1_0
 refine hK3 _ _ ?_
 have k2_0 := kt hg2 0 k1_0
 have k2_1 := kt hg2 1 k1_1
 have k2_4 := kt hg2 4 k1_4
 have k2_7 := kt hg2 7 (hB2.is 1)
 have k2_8 := kt hg2 8 (hB2.is 2)
 refine wp_block ?_
 refine wp_loop_n (fun m_ a_ W_ => ∃ g_ : Nat → Value, a_ = fr 19 g_ ∧ (∃ k : Nat, m_ = nj - k ∧ g_ 0 = .slice (some ⟨bj, oj, none⟩) (nj) (cj) ∧ g_ 1 = .func (.func 95) #[] #[.pointer (some ⟨b2, 0, none⟩)] ∧ g_ 4 = .int .i64 0 ∧ g_ 7 = .int .i64 ((nj : Int)) ∧ g_ 8 = .int .i64 ((k : Int)) ∧ Below w.heap.size w W_ ∧ W2.heap.size ≤ W_.heap.size ∧ W_.heap[b2]? = some (.cells #[.int .i64 ((nm : Int)), .slice (some ⟨bc, oc, none⟩) (2) (cc), .slice (sa) (ns) (sc)] 29 (0, 0)) ∧ (k ≤ nj))) ⟨_, g2, rfl, 0, rfl, k2_0, k2_1, k2_4, k2_7, k2_8.trans (by rfl), fB2, Nat.le_refl _, b2_0, (by omega)⟩ ?_
 rintro _ _ W_3 ⟨g_3, rfl, k, rfl, k_3_0, k_3_1, k_3_4, k_3_7, k_3_8, fB_3, z_3, b_3_0, lk0⟩
 refine wp_seq_k fun K4 hK4 => ?_
 refine region_dk 1 [(9, 0)] [[]] (rel [is (.bool (decide ((k : Int) < (nj : Int))))])
  ⟨is_k, trivial⟩
  ⟨fun f s W c d h i l a => opv rfl rfl (by simp [go_sem, a.e 8 k_3_8, a.e 7 k_3_7]) rfl, trivial⟩ ?_
 intro f3 s3 W3 hB3 g3 hg3
 have fB3 := hB3.f fB_3
 have z3 := hB3.below.size
 have b3_0 := hB3.b b_3_0
 refine hK4 _ _ ?_
 have k3_0 := kt hg3 0 k_3_0
 have k3_1 := kt hg3 1 k_3_1
 have k3_4 := kt hg3 4 k_3_4
 have k3_7 := kt hg3 7 k_3_7
 have k3_8 := kt hg3 8 k_3_8
 have k3_9 := kt hg3 9 (hB3.is 0)
 refine wp_seq_k fun K5 hK5 => ?_
 refine wp_cond_split (t := decide ((k : Int) < (nj : Int))) ((fr_eval rfl).trans k3_9) (fun hc6 => ?_) (fun hc6 => ?_)
 ·
  have hc6' := hc6; try simp only [ba] at hc6'
  have hkn : k < nj := by omega
  refine wp_skip ?_
  refine hK5 _ _ ?_
  refine wp_seq_k fun K7 hK7 => ?_
  refine wp_block ?_
  refine wp_seq_k fun K8 hK8 => ?_
  refine region_dk 2 [(10, 0), (5, 1)] [[], [0]] (rel [is (.int .i64 ((k : Int))),
   is (.int .i64 ((k : Int)))])
   ⟨is_k, is_k, trivial⟩
   ⟨fun f s W c d h i l a => opv rfl rfl (by simp [go_sem, a.e 8 k3_8]) rfl,
  fun f s W c d h i l a => opv rfl rfl (by simp [go_sem, a.e 10 (d 0 rfl)]) rfl, trivial⟩ ?_
  intro f4 s4 W4 hB4 g4 hg4
  have fB4 := hB4.f fB3
  have z4 := hB4.below.size
  have b4_0 := hB4.b b3_0
  refine hK8 _ _ ?_
  have k4_0 := kt hg4 0 k3_0
  have k4_1 := kt hg4 1 k3_1
  have k4_4 := kt hg4 4 k3_4
  have k4_7 := kt hg4 7 k3_7
  have k4_8 := kt hg4 8 k3_8
  have k4_5 := kt hg4 5 (hB4.is 1)
  refine wp_seq_k fun K9 hK9 => ?_
  refine region_dk 6 [(11, 0), (12, 1), (13, 2), (14, 3), (15, 4), (16, 5)] [[], [], [], [1, 2], [1, 2, 3], [0, 1, 2, 3, 4]] (rel [is (.func (.func 95) #[] #[.pointer (some ⟨b2, 0, none⟩)]),
   is (.slice (some ⟨bj, oj, none⟩) (nj) (cj)),
   is (.int .i64 ((k : Int))),
   is (.pointer (some ⟨bj, oj + k * 4, none⟩)),
   is (.agg #[.int .i64 (((js k).kd : Int)), .int .i64 ((js k).rd), .int .i64 ((js k).du), .slice ((adj k)) ((js k).ms.length) ((kpj k))]),
   is (.bool false)])
   ⟨is_k, is_k, is_k, is_k, is_k, is_k, trivial⟩
   ⟨fun f s W c d h i l a => opv rfl rfl (by simp [go_sem, a.e 1 k4_1]) rfl,
  fun f s W c d h i l a => opv rfl rfl (by simp [go_sem, a.e 0 k4_0]) rfl,
  fun f s W c d h i l a => opv rfl rfl (by simp [go_sem, a.e 5 k4_5]) rfl,
  fun f s W c d h i l a => by have li_ := Nat.not_le.2 (show k < nj by omega); have li2_ : (k : Int) < (nj : Int) := (by omega); exact opv rfl rfl (by simp [go_sem, a.e 12 (d 1 rfl), a.e 13 (d 2 rfl), li_, li2_]) rfl,
  fun f s W c d h i l a => by have m := below_trans fB4 c; obtain ⟨cu0_, cu1_, cu2_, cu3_, -⟩ := (hM.j.below m).2 k (by omega); exact opv rfl rfl (by simp [go_sem, a.e 14 (d 3 rfl), cu0_, cu1_, cu2_, cu3_]) rfl,
  fun f s W c d h i l a => by have m := below_trans fB4 c; exact opc (args := #[.agg #[.int .i64 (((js k).kd : Int)), .int .i64 ((js k).rd), .int .i64 ((js k).du), .slice ((adj k)) ((js k).ms.length) ((kpj k))], .pointer (some ⟨b2, 0, none⟩)]) rfl rfl (by simp [go_sem, a.e 15 (d 4 rfl), a.e 11 (d 0 rfl)]) (open3 nm ns nj CH x js bc oc cc bs os_ sc bj oj cj sa adc kpc adj kpj k W hF (hM.below m) (by omega) b2 (blk_below b4_0 c)), trivial⟩ ?_
  intro f5 s5 W5 hB5 g5 hg5
  have fB5 := hB5.f fB4
  have z5 := hB5.below.size
  have b5_0 := hB5.b b4_0
  refine hK9 _ _ ?_
  have k5_0 := kt hg5 0 k4_0
  have k5_1 := kt hg5 1 k4_1
  have k5_4 := kt hg5 4 k4_4
  have k5_7 := kt hg5 7 k4_7
  have k5_8 := kt hg5 8 k4_8
  have k5_5 := kt hg5 5 k4_5
  have k5_16 := kt hg5 16 (hB5.is 5)
  refine wp_cond_false ((fr_eval rfl).trans k5_16) ?_
  refine wp_skip ?_
  refine inBlock_normal ?_
  refine hK7 _ _ ?_
  refine region_dk 2 [(18, 0), (8, 1)] [[], [0]] (rel [is (.int .i64 ((k : Int) + 1)),
   is (.int .i64 ((k : Int) + 1))])
   ⟨is_k, is_k, trivial⟩
   ⟨fun f s W c d h i l a => opv rfl rfl (by simp [go_sem, a.e 8 ((i 1 8 rfl rfl).trans k5_8), IntWalk.i64_in ((k : Int) + 1) (by omega)]) rfl,
  fun f s W c d h i l a => opv rfl rfl (by simp [go_sem, a.e 18 (d 0 rfl)]) rfl, trivial⟩ ?_
  intro f6 s6 W6 hB6 g6 hg6
  have fB6 := hB6.f fB5
  have z6 := hB6.below.size
  have b6_0 := hB6.b b5_0
  refine wpOps_end ?_
  have k6_0 := kt hg6 0 k5_0
  have k6_1 := kt hg6 1 k5_1
  have k6_4 := kt hg6 4 k5_4
  have k6_7 := kt hg6 7 k5_7
  have k6_8 := kt hg6 8 (hB6.is 1)
  refine then_normal ?_
  exact ⟨_, by omega, g6, rfl, k + 1, rfl, k6_0, k6_1, k6_4, k6_7, k6_8.trans (by go_num), fB6, (by omega), b6_0, (by omega)⟩
 ·
  have hc6' := hc6; try simp only [ba] at hc6'
  refine wp_exit ?_
  refine then_exit ?_
  refine then_exit ?_
  refine inBlock_at ?_
  refine hK2 _ _ ?_
  refine wp_seq_k fun K11 hK11 => ?_
  refine region_dk 1 [(4, 0)] [[]] (rel [is (.int .i64 (-1))])
   ⟨is_k, trivial⟩
   ⟨fun f s W c d h i l a => opv rfl rfl (by simp [go_sem]) rfl, trivial⟩ ?_
  intro f7 s7 W7 hB7 g7 hg7
  have fB7 := hB7.f fB3
  have z7 := hB7.below.size
  have b7_0 := hB7.b b3_0
  refine hK11 _ _ ?_
  have k7_4 := kt hg7 4 (hB7.is 0)
  refine wp_ret ?_
  refine leave_one (N := 19) (v := .int .i64 (-1)) (.inr rfl) Try.results134 rfl k7_4 ?_
  exact ⟨rfl, fB7⟩
set_option maxRecDepth 100000 in
set_option maxHeartbeats 400000 in
theorem contains_jb (nm ns nj : Nat) (CH : List (List Int)) (x : Fs) (js : Nat → Fj) (bc oc cc bs os_ sc bj oj cj : Nat) (sa : Option Addr) (adc : Nat → Option Addr) (kpc : Nat → Nat) (adj : Nat → Option Addr) (kpj : Nat → Nat) (w : World) (hF : FlOk nm ns nj CH x js) (hM : FlR nm ns nj CH js x bc oc bs os_ bj oj sa adc kpc adj kpj w) (b2 : Nat) (hb2 : w.heap[b2]? = some (.cells #[.int .i64 ((nm : Int)), .slice (some ⟨bc, oc, none⟩) (2) (cc), .slice (sa) (ns) (sc)] 29 (0, 0))) :
  Calls Try.prog 94 #[.slice (some ⟨bj, oj, none⟩) (nj) (cj), .func (.func 95) #[] #[.pointer (some ⟨b2, 0, none⟩)]] w (fun e w' => e = .returned (.bool false) ∧ Below w.heap.size w w') := by
 refine calls_fr Try.func94 Try.ntmps94 rfl rfl fun g hg => ?_
 have k0 : g 0 = .slice (some ⟨bj, oj, none⟩) (nj) (cj) := hg 0
 have k1 : g 1 = .func (.func 95) #[] #[.pointer (some ⟨b2, 0, none⟩)] := hg 1
 clear hg
 have fB0 : Below w.heap.size w w := Below.refl _ _
 have lt_b2 := lt_of_blk hb2
 refine wp_seq_k fun K1 hK1 => ?_
 refine region_dk 1 [(4, 0)] [[]] (rel [is (.bool false)])
  ⟨is_k, trivial⟩
  ⟨fun f s W c d h i j a => opv rfl rfl (by simp [go_sem]) rfl, trivial⟩ ?_
 intro f1 s1 W1 hB1 g1 hg1
 have fB1 := hB1.f fB0
 have z1 := hB1.below.size
 have b1_0 := hB1.b hb2
 refine hK1 _ _ ?_
 have k1_0 := kt hg1 0 k0
 have k1_1 := kt hg1 1 k1
 have k1_4 := kt hg1 4 (hB1.is 0)
 refine wp_seq_k fun K2 hK2 => ?_
 refine region_dk 5 [(5, 0), (6, 1), (7, 2), (8, 3), (4, 4)] [[], [], [0, 1], [0, 1, 2], [0, 1, 2, 3]] (rel [is (.slice (some ⟨bj, oj, none⟩) (nj) (cj)),
   is (.func (.func 95) #[] #[.pointer (some ⟨b2, 0, none⟩)]),
   is (.int .i64 (-1)),
   is (.bool false),
   is (.bool false)])
  ⟨is_k, is_k, is_k, is_k, is_k, trivial⟩
  ⟨fun f s W c d h i j a => opv rfl rfl (by simp [go_sem, a.e 0 k1_0]) rfl,
  fun f s W c d h i j a => opv rfl rfl (by simp [go_sem, a.e 1 k1_1]) rfl,
  fun f s W c d h i j a => by have k := below_trans fB1 c; exact opc (args := #[.slice (some ⟨bj, oj, none⟩) (nj) (cj), .func (.func 95) #[] #[.pointer (some ⟨b2, 0, none⟩)]]) rfl rfl (by simp [go_sem, a.e 5 (d 0 rfl), a.e 6 (d 1 rfl)]) (index_jb nm ns nj CH x js bc oc cc bs os_ sc bj oj cj sa adc kpc adj kpj W hF (hM.below k) b2 (blk_below b1_0 c)),
  fun f s W c d h i j a => opv rfl rfl (by simp [go_sem, a.e 7 (d 2 rfl)]) rfl,
  fun f s W c d h i j a => opv rfl rfl (by simp [go_sem, a.e 8 (d 3 rfl)]) rfl, trivial⟩ ?_
 intro f2 s2 W2 hB2 g2 hg2
 have fB2 := hB2.f fB1
 have z2 := hB2.below.size
 have b2_0 := hB2.b b1_0
 refine hK2 _ _ ?_
 have k2_4 := kt hg2 4 (hB2.is 4)
 refine wp_ret ?_
 refine leave_one (N := 9) (v := .bool false) (.inr rfl) Try.results94 rfl k2_4 ?_
 exact ⟨rfl, fB2⟩
end Go.Proofs.Ytcgccflcjejlhaa
