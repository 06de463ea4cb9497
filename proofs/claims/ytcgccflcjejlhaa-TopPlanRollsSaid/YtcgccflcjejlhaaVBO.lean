/- Part of the proof: what the claim leans on. -/
import Derived.Test.YtcgccflcjejlhaaVBM
set_option maxHeartbeats 8000000
set_option maxRecDepth 100000
set_option linter.unusedSimpArgs false
set_option linter.unusedVariables false
namespace Go.Proofs.Ytcgccflcjejlhaa
open Go.RowKit
structure WebM (bw : Nat) (R Q : Nat → Nat) (m : Nat → Nat → Int) (W : World) : Prop where
  hb : W.heap[bw]? = some (.cells #[.slice (some ⟨R 0, 0, none⟩) 3 (Q 0), .slice (some ⟨R 1, 0, none⟩) 3 (Q 1), .slice (some ⟨R 2, 0, none⟩) 3 (Q 2)] 25 (0, 0))
  hr : ∀ i, i < 3 → W.heap[R i]? = some (.cells #[.int .i64 (m i 0), .int .i64 (m i 1), .int .i64 (m i 2)] 3 (0, 0))
structure WebN (B bw : Nat) (R : Nat → Nat) : Prop where
  lb : ∀ i, i < 3 → B ≤ R i ∧ bw ≠ R i
  ne : ∀ i j, i < 3 → j < 3 → R i = R j → i = j
theorem WebM.below {bw : Nat} {R Q : Nat → Nat} {m : Nat → Nat → Int} {W W' : World} (h : WebM bw R Q m W) (hb : Below W.heap.size W W') : WebM bw R Q m W' := ⟨bwb h.hb hb, fun i hi => bwb (h.hr i hi) hb⟩
theorem WebM.row {bw : Nat} {R Q : Nat → Nat} {m : Nat → Nat → Int} {W : World} (h : WebM bw R Q m W) {i : Nat} (hi : i < 3) : W.cell? ⟨bw, i, none⟩ = some (.slice (some ⟨R i, 0, none⟩) 3 (Q i)) := by
  match i, hi with
  | 0, _ => exact (Joins.cell_of_block h.hb 0).trans rfl
  | 1, _ => exact (Joins.cell_of_block h.hb 1).trans rfl
  | 2, _ => exact (Joins.cell_of_block h.hb 2).trans rfl
theorem WebM.cell {bw : Nat} {R Q : Nat → Nat} {m : Nat → Nat → Int} {W : World} (h : WebM bw R Q m W) {i j : Nat} (hi : i < 3) (hj : j < 3) : W.cell? ⟨R i, j, none⟩ = some (.int .i64 (m i j)) := by
  have hr := h.hr i hi
  match j, hj with
  | 0, _ => exact (Joins.cell_of_block hr 0).trans rfl
  | 1, _ => exact (Joins.cell_of_block hr 1).trans rfl
  | 2, _ => exact (Joins.cell_of_block hr 2).trans rfl
def setM (m : Nat → Nat → Int) (i j : Nat) (v : Int) : Nat → Nat → Int := fun a b => if a = i ∧ b = j then v else m a b
def WebT (R : Nat → Nat) (b : Nat) : Prop := ∃ i, i < 3 ∧ b = R i
theorem WebM.store {w W : World} {bw : Nat} {R Q : Nat → Nat} {m : Nat → Nat → Int} (h : WebM bw R Q m W) (hB : Below w.heap.size w W) (hN : WebN w.heap.size bw R) {i j : Nat} (hi : i < 3) (hj : j < 3) (x : Int) :
    ∃ W', (∀ {a : Act} {dst : Option Nat} {tt : TypeId} {X Y : Operand} {pos : String} {af : Array Edge} {gd : Option (Nat × Bool)}, a.eval X = .pointer (some ⟨R i, j, none⟩) → a.eval Y = .int .i64 x → (execOp a.eval { dst := dst, op := .store 3 X Y, type := tt, pos := pos, after := af, guard := gd }).run Try.prog W = .ok .skip W') ∧
      WebM bw R Q (setM m i j x) W' ∧ KeepP (WebT R) W W' ∧ Below w.heap.size w W' := by
  have hr := h.hr i hi
  have hs : ∀ b, setM m i j x i b = if b = j then x else m i b := fun b => by simp [setM]
  refine ⟨W.setRow (R i) #[.int .i64 (setM m i j x i 0), .int .i64 (setM m i j x i 1), .int .i64 (setM m i j x i 2)], fun hX hY => ?_, ⟨?_, fun a ha => ?_⟩, keepX_P (keepX_row rfl) ⟨i, hi, rfl⟩, below_setRow hB (hN.lb i hi).1 _⟩
  · rw [hs 0, hs 1, hs 2]
    match j, hj with
    | 0, _ => exact run_seg (v := .int .i64 x) rfl hX hY hr (by kernel_rfl) rfl rfl rfl
    | 1, _ => exact run_seg (v := .int .i64 x) rfl hX hY hr (by kernel_rfl) rfl rfl rfl
    | 2, _ => exact run_seg (v := .int .i64 x) rfl hX hY hr (by kernel_rfl) rfl rfl rfl
  · rw [setRow_other W (R i) bw _ (hN.lb i hi).2]; exact h.hb
  · by_cases e : a = i
    · subst e; exact setRow_heap W (R a) _ _ 3 (0, 0) hr
    · rw [setRow_other W (R i) (R a) _ (fun e' => e (hN.ne a i ha hi e'))]
      have hq : ∀ b, setM m i j x a b = m a b := fun b => by simp [setM, e]
      rw [hq 0, hq 1, hq 2]; exact h.hr a ha
def inW (m : Nat → Nat → Int) (k i : Nat) : Nat → Nat → Nat → Int
  | 0 => m
  | j + 1 => setM (inW m k i j) i j (min (inW m k i j i j) (inW m k i j i k + inW m k i j k j))
def miW (m : Nat → Nat → Int) (k : Nat) : Nat → Nat → Nat → Int
  | 0 => m
  | i + 1 => inW (miW m k i) k i 3
def ouW (m : Nat → Nat → Int) : Nat → Nat → Nat → Int
  | 0 => m
  | k + 1 => miW (ouW m k) k 3
def smW (m : Nat → Nat → Int) : Prop := ∀ k i j a b, k < 3 → i < 3 → j < 3 → a < 3 → b < 3 → -4000000000000000 ≤ inW (miW (ouW m k) k i) k i j a b ∧ inW (miW (ouW m k) k i) k i j a b ≤ 4000000000000000
def smB (m : Nat → Nat → Int) : Bool := (List.range 3).all fun k => (List.range 3).all fun i => (List.range 3).all fun j => (List.range 3).all fun a => (List.range 3).all fun b => decide (-4000000000000000 ≤ inW (miW (ouW m k) k i) k i j a b ∧ inW (miW (ouW m k) k i) k i j a b ≤ 4000000000000000)
theorem smW_of {m : Nat → Nat → Int} (h : smB m = true) : smW m := fun k i j a b hk hi hj ha hb => by
  have h1 := List.all_eq_true.1 h k (List.mem_range.2 hk)
  have h2 := List.all_eq_true.1 h1 i (List.mem_range.2 hi)
  have h3 := List.all_eq_true.1 h2 j (List.mem_range.2 hj)
  have h4 := List.all_eq_true.1 h3 a (List.mem_range.2 ha)
  exact of_decide_eq_true (List.all_eq_true.1 h4 b (List.mem_range.2 hb))
theorem webM_close (bw cw : Nat) (R Q : Nat → Nat) (M0 : Nat → Nat → Int) (w X : World) (hbX : Below w.heap.size w X) (hN : WebN w.heap.size bw R) (hM : WebM bw R Q M0 X) (hsm : smW M0) (hdg : ∀ i, i < 3 → 0 ≤ ouW M0 3 i i) :
  Calls Try.prog 77 #[.slice (some ⟨bw, 0, none⟩) 3 cw] X (fun e w' => e = .returned (.bool true) ∧ WebM bw R Q (ouW M0 3) w' ∧ KeepP (WebT R) X w' ∧ Below w.heap.size w w') := by
 have hk0_ : KeepP (WebT R) X X := KeepP.refl _ _
 refine calls_fr Try.func77 Try.ntmps77 rfl rfl fun g hg => ?_
 have k0 : g 0 = .slice (some ⟨bw, 0, none⟩) 3 cw := hg 0
 clear hg
 have fB0 : Below w.heap.size w X := hbX
 refine rw_ 1 [(2, 0)] [[]] (rel [iB false])
  ⟨fun f s W b c d h l a => opz, trivial⟩ ?_
 intro f1 s1 W1 hB1 g1 hg1 z1
 have q26' := (WebM.below hM hB1.below)
 have q27' := (KeepP.trans hk0_ (KeepP.of_below hB1.below))
 have k1_0 := kt hg1 0 k0
 refine wp_seq_k fun K2 hK2 => ?_
 refine rw_ 3 [(7, 0), (8, 1), (9, 2)] [[], [0], []] (rel [is (.slice (some ⟨bw, 0, none⟩) 3 cw), iI 3, iI 0])
  ⟨fun f s W b c d h l a => opm (a.v 0 k1_0),
  fun f s W b c d h l a => opv rfl rfl (by simp [go_sem, a.e 7 (c 0 rfl)]) rfl,
  fun f s W b c d h l a => opz, trivial⟩ ?_
 intro f2 s2 W2 hB2 g2 hg2 z2
 have fB2 := hB2.f (hB1.f fB0)
 have q28' := (WebM.below q26' hB2.below)
 have q29' := (KeepP.trans q27' (KeepP.of_below hB2.below))
 have k2_0 := kt hg2 0 k1_0
 have k2_2 := kt hg2 2 (kt hg1 2 (hB1.is 0))
 have k2_8 := kt hg2 8 (hB2.is 1)
 have k2_9 := kt hg2 9 (hB2.is 2)
 refine wp_block ?_
 refine wp_loop_n (fun m_ a_ W_ => ∃ g_ : Nat → Value, a_ = fr 68 g_ ∧ (∃ k : Nat, ∃ m1 : Nat → Nat → Int, m_ = 3 - k ∧ g_ 0 = .slice (some ⟨bw, 0, none⟩) 3 cw ∧ g_ 2 = .bool false ∧ g_ 8 = .int .i64 3 ∧ g_ 9 = .int .i64 ((k : Int)) ∧ Below w.heap.size w W_ ∧ W2.heap.size ≤ W_.heap.size ∧ KeepP (WebT R) X W_ ∧ WebM bw R Q m1 W_ ∧ (m1 = ouW M0 k) ∧ (k ≤ 3))) ⟨_, g2, rfl, 0, M0, rfl, k2_0, k2_2, k2_8, k2_9.trans (by rfl), fB2, Nat.le_refl _, q29', q28', rfl, (by omega)⟩ ?_
 rintro _ _ W_30 ⟨g_30, rfl, k, m1, rfl, k_30_0, k_30_2, k_30_8, k_30_9, fB_30, z_30, q31', q32', la0, la1⟩
 refine rw_ 1 [(10, 0)] [[]] (rel [iB (decide ((k : Int) < 3))])
  ⟨fun f s W b c d h l a => opv rfl rfl (by simp [go_sem, a.e 9 k_30_9, a.e 8 k_30_8]) rfl, trivial⟩ ?_
 intro f3 s3 W3 hB3 g3 hg3 z3
 have fB3 := hB3.f fB_30
 have q33' := (KeepP.trans q31' (KeepP.of_below hB3.below))
 have q34' := (WebM.below q32' hB3.below)
 have k3_0 := kt hg3 0 k_30_0
 have k3_2 := kt hg3 2 k_30_2
 have k3_9 := kt hg3 9 k_30_9
 have k3_10 := kt hg3 10 (hB3.is 0)
 refine wp_seq_k fun K5 hK5 => ?_
 refine wp_cond_split (t := decide ((k : Int) < 3)) ((fr_eval rfl).trans k3_10) (fun hc6 => ?_) (fun hc6 => ?_)
 ·
  have hc6' := hc6; try simp only [ba] at hc6'
  have hkl_ : k < 3 := by omega
  refine wp_skip ?_
  refine hK5 _ _ ?_
  refine wp_seq_k fun K7 hK7 => ?_
  refine wp_block ?_
  refine rw_ 2 [(11, 0), (3, 1)] [[], [0]] (rel [iI ((k : Int)), iI ((k : Int))])
   ⟨fun f s W b c d h l a => opm (a.v 9 k3_9),
  fun f s W b c d h l a => opm (a.v 11 (c 0 rfl)), trivial⟩ ?_
  intro f4 s4 W4 hB4 g4 hg4 z4
  have q35' := (KeepP.trans q33' (KeepP.of_below hB4.below))
  have q36' := (WebM.below q34' hB4.below)
  have k4_0 := kt hg4 0 k3_0
  refine rw_ 3 [(12, 0), (13, 1), (14, 2)] [[], [0], []] (rel [is (.slice (some ⟨bw, 0, none⟩) 3 cw), iI 3, iI 0])
   ⟨fun f s W b c d h l a => opm (a.v 0 k4_0),
  fun f s W b c d h l a => opv rfl rfl (by simp [go_sem, a.e 12 (c 0 rfl)]) rfl,
  fun f s W b c d h l a => opz, trivial⟩ ?_
  intro f5 s5 W5 hB5 g5 hg5 z5
  have fB5 := hB5.f (hB4.f fB3)
  have q37' := (KeepP.trans q35' (KeepP.of_below hB5.below))
  have q38' := (WebM.below q36' hB5.below)
  have k5_0 := kt hg5 0 k4_0
  have k5_2 := kt hg5 2 (kt hg4 2 k3_2)
  have k5_8 := kt hg5 8 (kt hg4 8 (kt hg3 8 k_30_8))
  have k5_9 := kt hg5 9 (kt hg4 9 k3_9)
  have k5_3 := kt hg5 3 (kt hg4 3 (hB4.is 1))
  have k5_13 := kt hg5 13 (hB5.is 1)
  have k5_14 := kt hg5 14 (hB5.is 2)
  refine wp_block ?_
  refine wp_loop_n (fun m_ a_ W_ => ∃ g_ : Nat → Value, a_ = fr 68 g_ ∧ (∃ i : Nat, ∃ m2 : Nat → Nat → Int, m_ = 3 - i ∧ g_ 0 = .slice (some ⟨bw, 0, none⟩) 3 cw ∧ g_ 2 = .bool false ∧ g_ 8 = .int .i64 3 ∧ g_ 9 = .int .i64 ((k : Int)) ∧ g_ 3 = .int .i64 ((k : Int)) ∧ g_ 13 = .int .i64 3 ∧ g_ 14 = .int .i64 ((i : Int)) ∧ Below w.heap.size w W_ ∧ W5.heap.size ≤ W_.heap.size ∧ KeepP (WebT R) X W_ ∧ WebM bw R Q m2 W_ ∧ (m2 = miW (ouW M0 k) k i) ∧ (i ≤ 3))) ⟨_, g5, rfl, 0, m1, rfl, k5_0, k5_2, k5_8, k5_9, k5_3, k5_13, k5_14.trans (by rfl), fB5, Nat.le_refl _, q37', q38', (by rw [la0]; rfl), (by omega)⟩ ?_
  rintro _ _ W_39 ⟨g_39, rfl, i, m2, rfl, k_39_0, k_39_2, k_39_8, k_39_9, k_39_3, k_39_13, k_39_14, fB_39, z_39, q40', q41', lb0, lb1⟩
  refine rw_ 1 [(15, 0)] [[]] (rel [iB (decide ((i : Int) < 3))])
   ⟨fun f s W b c d h l a => opv rfl rfl (by simp [go_sem, a.e 14 k_39_14, a.e 13 k_39_13]) rfl, trivial⟩ ?_
  intro f6 s6 W6 hB6 g6 hg6 z6
  have fB6 := hB6.f fB_39
  have q42' := (KeepP.trans q40' (KeepP.of_below hB6.below))
  have q43' := (WebM.below q41' hB6.below)
  have k6_0 := kt hg6 0 k_39_0
  have k6_2 := kt hg6 2 k_39_2
  have k6_8 := kt hg6 8 k_39_8
  have k6_9 := kt hg6 9 k_39_9
  have k6_14 := kt hg6 14 k_39_14
  have k6_15 := kt hg6 15 (hB6.is 0)
  refine wp_seq_k fun K11 hK11 => ?_
  refine wp_cond_split (t := decide ((i : Int) < 3)) ((fr_eval rfl).trans k6_15) (fun hc12 => ?_) (fun hc12 => ?_)
  ·
   have hc12' := hc12; try simp only [ba] at hc12'
   have hil_ : i < 3 := by omega
   refine wp_skip ?_
   refine hK11 _ _ ?_
   refine wp_seq_k fun K13 hK13 => ?_
   refine wp_block ?_
   refine rw_ 2 [(16, 0), (4, 1)] [[], [0]] (rel [iI ((i : Int)), iI ((i : Int))])
    ⟨fun f s W b c d h l a => opm (a.v 14 k6_14),
  fun f s W b c d h l a => opm (a.v 16 (c 0 rfl)), trivial⟩ ?_
   intro f7 s7 W7 hB7 g7 hg7 z7
   have fB7 := hB7.f fB6
   have q44' := (KeepP.trans q42' (KeepP.of_below hB7.below))
   have q45' := (WebM.below q43' hB7.below)
   have k7_0 := kt hg7 0 k6_0
   have k7_2 := kt hg7 2 k6_2
   have k7_8 := kt hg7 8 k6_8
   have k7_9 := kt hg7 9 k6_9
   have k7_3 := kt hg7 3 (kt hg6 3 k_39_3)
   have k7_13 := kt hg7 13 (kt hg6 13 k_39_13)
   have k7_14 := kt hg7 14 k6_14
   have k7_4 := kt hg7 4 (hB7.is 1)
   refine rw_ 3 [(17, 0), (18, 1), (19, 2)] [[], [0], []] (rel [is (.slice (some ⟨bw, 0, none⟩) 3 cw), iI 3, iI 0])
    ⟨fun f s W b c d h l a => opm (a.v 0 k7_0),
  fun f s W b c d h l a => opv rfl rfl (by simp [go_sem, a.e 17 (c 0 rfl)]) rfl,
  fun f s W b c d h l a => opz, trivial⟩ ?_
   intro f8 s8 W8 hB8 g8 hg8 z8
   have fB8 := hB8.f fB7
   have q46' := (KeepP.trans q44' (KeepP.of_below hB8.below))
   have q47' := (WebM.below q45' hB8.below)
   have k8_0 := kt hg8 0 k7_0
   have k8_2 := kt hg8 2 k7_2
   have k8_8 := kt hg8 8 k7_8
   have k8_9 := kt hg8 9 k7_9
   have k8_3 := kt hg8 3 k7_3
   have k8_13 := kt hg8 13 k7_13
   have k8_14 := kt hg8 14 k7_14
   have k8_4 := kt hg8 4 k7_4
   have k8_18 := kt hg8 18 (hB8.is 1)
   have k8_19 := kt hg8 19 (hB8.is 2)
   refine wp_block ?_
   refine wp_loop_n (fun m_ a_ W_ => ∃ g_ : Nat → Value, a_ = fr 68 g_ ∧ (∃ j : Nat, ∃ m3 : Nat → Nat → Int, m_ = 3 - j ∧ g_ 0 = .slice (some ⟨bw, 0, none⟩) 3 cw ∧ g_ 2 = .bool false ∧ g_ 8 = .int .i64 3 ∧ g_ 9 = .int .i64 ((k : Int)) ∧ g_ 3 = .int .i64 ((k : Int)) ∧ g_ 13 = .int .i64 3 ∧ g_ 14 = .int .i64 ((i : Int)) ∧ g_ 4 = .int .i64 ((i : Int)) ∧ g_ 18 = .int .i64 3 ∧ g_ 19 = .int .i64 ((j : Int)) ∧ Below w.heap.size w W_ ∧ W8.heap.size ≤ W_.heap.size ∧ KeepP (WebT R) X W_ ∧ WebM bw R Q m3 W_ ∧ (m3 = inW (miW (ouW M0 k) k i) k i j) ∧ (j ≤ 3))) ⟨_, g8, rfl, 0, m2, rfl, k8_0, k8_2, k8_8, k8_9, k8_3, k8_13, k8_14, k8_4, k8_18, k8_19.trans (by rfl), fB8, Nat.le_refl _, q46', q47', (by rw [lb0]; rfl), (by omega)⟩ ?_
   rintro _ _ W_48 ⟨g_48, rfl, j, m3, rfl, k_48_0, k_48_2, k_48_8, k_48_9, k_48_3, k_48_13, k_48_14, k_48_4, k_48_18, k_48_19, fB_48, z_48, q49', q50', lc0, lc1⟩
   refine rw_ 1 [(20, 0)] [[]] (rel [iB (decide ((j : Int) < 3))])
    ⟨fun f s W b c d h l a => opv rfl rfl (by simp [go_sem, a.e 19 k_48_19, a.e 18 k_48_18]) rfl, trivial⟩ ?_
   intro f9 s9 W9 hB9 g9 hg9 z9
   have fB9 := hB9.f fB_48
   have q51' := (KeepP.trans q49' (KeepP.of_below hB9.below))
   have q52' := (WebM.below q50' hB9.below)
   have k9_0 := kt hg9 0 k_48_0
   have k9_2 := kt hg9 2 k_48_2
   have k9_8 := kt hg9 8 k_48_8
   have k9_9 := kt hg9 9 k_48_9
   have k9_3 := kt hg9 3 k_48_3
   have k9_13 := kt hg9 13 k_48_13
   have k9_14 := kt hg9 14 k_48_14
   have k9_4 := kt hg9 4 k_48_4
   have k9_18 := kt hg9 18 k_48_18
   have k9_19 := kt hg9 19 k_48_19
   have k9_20 := kt hg9 20 (hB9.is 0)
   refine wp_seq_k fun K17 hK17 => ?_
   refine wp_cond_split (t := decide ((j : Int) < 3)) ((fr_eval rfl).trans k9_20) (fun hc18 => ?_) (fun hc18 => ?_)
   ·
    have hc18' := hc18; try simp only [ba] at hc18'
    have hjl_ : j < 3 := by omega
    have hq_ := hsm k i j
    rw [← lc0] at hq_
    have hq1_ := hq_ i j (by omega) (by omega) (by omega) (by omega) (by omega)
    have hq2_ := hq_ i k (by omega) (by omega) (by omega) (by omega) (by omega)
    have hq3_ := hq_ k j (by omega) (by omega) (by omega) (by omega) (by omega)
    refine wp_skip ?_
    refine hK17 _ _ ?_
    refine wp_seq_k fun K19 hK19 => ?_
    refine wp_block ?_
    refine rw_ 2 [(21, 0), (5, 1)] [[], [0]] (rel [iI ((j : Int)), iI ((j : Int))])
     ⟨fun f s W b c d h l a => opm (a.v 19 k9_19),
  fun f s W b c d h l a => opm (a.v 21 (c 0 rfl)), trivial⟩ ?_
    intro f10 s10 W10 hB10 g10 hg10 z10
    have fB10 := hB10.f fB9
    have q53' := (KeepP.trans q51' (KeepP.of_below hB10.below))
    have q54' := (WebM.below q52' hB10.below)
    have k10_0 := kt hg10 0 k9_0
    have k10_2 := kt hg10 2 k9_2
    have k10_8 := kt hg10 8 k9_8
    have k10_9 := kt hg10 9 k9_9
    have k10_3 := kt hg10 3 k9_3
    have k10_13 := kt hg10 13 k9_13
    have k10_14 := kt hg10 14 k9_14
    have k10_4 := kt hg10 4 k9_4
    have k10_18 := kt hg10 18 k9_18
    have k10_19 := kt hg10 19 k9_19
    have k10_5 := kt hg10 5 (hB10.is 1)
    refine ry 29 [(22, 0), (23, 1), (24, 2), (25, 3), (26, 4), (27, 5), (28, 6), (29, 7), (30, 8), (31, 9), (32, 10), (33, 11), (34, 12), (35, 13), (36, 14), (37, 15), (38, 16), (39, 17), (40, 18), (41, 19), (42, 20), (43, 21), (44, 22), (45, 23), (46, 24), (47, 25), (48, 26), (49, 27), (50, 28)] [[], [], [0, 1], [2], [], [], [], [5, 6], [7], [], [8, 9], [10], [], [], [12, 13], [14], [], [15, 16], [17], [], [], [19, 20], [21], [], [22, 23], [24], [18, 25], [11, 26], [3, 4], [0, 1, 2, 3, 4, 5, 6, 7, 8, 9, 10, 11, 12, 13, 14, 15, 16, 17, 18, 19, 20, 21, 22, 23, 24, 25, 26, 27, 28]] (rel [is (.slice (some ⟨bw, 0, none⟩) 3 cw), iI ((i : Int)), is (.pointer (some ⟨bw, i, none⟩)), is (.slice (some ⟨(R i), 0, none⟩) (3) ((Q i))), iI ((j : Int)), is (.slice (some ⟨bw, 0, none⟩) 3 cw), iI ((i : Int)), is (.pointer (some ⟨bw, i, none⟩)), is (.slice (some ⟨(R i), 0, none⟩) (3) ((Q i))), iI ((j : Int)), is (.pointer (some ⟨(R i), j, none⟩)), iI ((m3 i j)), is (.slice (some ⟨bw, 0, none⟩) 3 cw), iI ((i : Int)), is (.pointer (some ⟨bw, i, none⟩)), is (.slice (some ⟨(R i), 0, none⟩) (3) ((Q i))), iI ((k : Int)), is (.pointer (some ⟨(R i), k, none⟩)), iI ((m3 i k)), is (.slice (some ⟨bw, 0, none⟩) 3 cw), iI ((k : Int)), is (.pointer (some ⟨bw, k, none⟩)), is (.slice (some ⟨(R k), 0, none⟩) (3) ((Q k))), iI ((j : Int)), is (.pointer (some ⟨(R k), j, none⟩)), iI ((m3 k j)), iI ((m3 i k) + (m3 k j)), iI (min (m3 i j) ((m3 i k) + (m3 k j))), is (.pointer (some ⟨(R i), j, none⟩))])
     ⟨fun f s W b c d h l a => opm (a.v 0 k10_0),
  fun f s W b c d h l a => opm (a.v 4 k10_4),
  fun f s W b c d h l a => by have li_ := Nat.not_le.2 (show i < 3 by omega); have li2_ : (i : Int) < 3 := (by omega); exact opv rfl rfl (by simp [go_sem, a.e 22 (c 0 rfl), a.e 23 (c 1 rfl), li_, li2_]) rfl,
  fun f s W b c d h l a => by have cu_ := WebM.row (WebM.below q54' b) (i := i) (by omega); exact opv rfl rfl (by simp [go_sem, a.e 24 (c 2 rfl), cu_]) rfl,
  fun f s W b c d h l a => opm (a.v 5 k10_5),
  fun f s W b c d h l a => opm (a.v 0 k10_0),
  fun f s W b c d h l a => opm (a.v 4 k10_4),
  fun f s W b c d h l a => by have li_ := Nat.not_le.2 (show i < 3 by omega); have li2_ : (i : Int) < 3 := (by omega); exact opv rfl rfl (by simp [go_sem, a.e 27 (c 5 rfl), a.e 28 (c 6 rfl), li_, li2_]) rfl,
  fun f s W b c d h l a => by have cu_ := WebM.row (WebM.below q54' b) (i := i) (by omega); exact opv rfl rfl (by simp [go_sem, a.e 29 (c 7 rfl), cu_]) rfl,
  fun f s W b c d h l a => opm (a.v 5 k10_5),
  fun f s W b c d h l a => by have li_ := Nat.not_le.2 (show j < 3 by omega); have li2_ : (j : Int) < 3 := (by omega); exact opv rfl rfl (by simp [go_sem, a.e 30 (c 8 rfl), a.e 31 (c 9 rfl), li_, li2_]) rfl,
  fun f s W b c d h l a => by have cu_ := WebM.cell (WebM.below q54' b) (i := i) (j := j) (by omega) (by omega); exact opv rfl rfl (by simp [go_sem, a.e 32 (c 10 rfl), cu_]) rfl,
  fun f s W b c d h l a => opm (a.v 0 k10_0),
  fun f s W b c d h l a => opm (a.v 4 k10_4),
  fun f s W b c d h l a => by have li_ := Nat.not_le.2 (show i < 3 by omega); have li2_ : (i : Int) < 3 := (by omega); exact opv rfl rfl (by simp [go_sem, a.e 34 (c 12 rfl), a.e 35 (c 13 rfl), li_, li2_]) rfl,
  fun f s W b c d h l a => by have cu_ := WebM.row (WebM.below q54' b) (i := i) (by omega); exact opv rfl rfl (by simp [go_sem, a.e 36 (c 14 rfl), cu_]) rfl,
  fun f s W b c d h l a => opm (a.v 3 k10_3),
  fun f s W b c d h l a => by have li_ := Nat.not_le.2 (show k < 3 by omega); have li2_ : (k : Int) < 3 := (by omega); exact opv rfl rfl (by simp [go_sem, a.e 37 (c 15 rfl), a.e 38 (c 16 rfl), li_, li2_]) rfl,
  fun f s W b c d h l a => by have cu_ := WebM.cell (WebM.below q54' b) (i := i) (j := k) (by omega) (by omega); exact opv rfl rfl (by simp [go_sem, a.e 39 (c 17 rfl), cu_]) rfl,
  fun f s W b c d h l a => opm (a.v 0 k10_0),
  fun f s W b c d h l a => opm (a.v 3 k10_3),
  fun f s W b c d h l a => by have li_ := Nat.not_le.2 (show k < 3 by omega); have li2_ : (k : Int) < 3 := (by omega); exact opv rfl rfl (by simp [go_sem, a.e 41 (c 19 rfl), a.e 42 (c 20 rfl), li_, li2_]) rfl,
  fun f s W b c d h l a => by have cu_ := WebM.row (WebM.below q54' b) (i := k) (by omega); exact opv rfl rfl (by simp [go_sem, a.e 43 (c 21 rfl), cu_]) rfl,
  fun f s W b c d h l a => opm (a.v 5 k10_5),
  fun f s W b c d h l a => by have li_ := Nat.not_le.2 (show j < 3 by omega); have li2_ : (j : Int) < 3 := (by omega); exact opv rfl rfl (by simp [go_sem, a.e 44 (c 22 rfl), a.e 45 (c 23 rfl), li_, li2_]) rfl,
  fun f s W b c d h l a => by have cu_ := WebM.cell (WebM.below q54' b) (i := k) (j := j) (by omega) (by omega); exact opv rfl rfl (by simp [go_sem, a.e 46 (c 24 rfl), cu_]) rfl,
  fun f s W b c d h l a => opv rfl rfl (by simp [go_sem, a.e 40 (c 18 rfl), a.e 47 (c 25 rfl), IntWalk.i64_in ((m3 i k) + (m3 k j)) (by omega)]) rfl,
  fun f s W b c d h l a => opv rfl rfl (by simp [go_sem, a.e 33 (c 11 rfl), a.e 48 (c 26 rfl)]) rfl,
  fun f s W b c d h l a => by have li_ := Nat.not_le.2 (show j < 3 by omega); have li2_ : (j : Int) < 3 := (by omega); exact opv rfl rfl (by simp [go_sem, a.e 25 (c 3 rfl), a.e 26 (c 4 rfl), li_, li2_]) rfl, trivial⟩ ?_
    intro f11 s11 W11 hB11 g11 hg11 z11
    have fB11 := hB11.f fB10
    have q55' := (KeepP.trans q53' (KeepP.of_below hB11.below))
    have q56' := (WebM.below q54' hB11.below)
    have k11_0 := kt hg11 0 k10_0
    have k11_2 := kt hg11 2 k10_2
    have k11_8 := kt hg11 8 k10_8
    have k11_9 := kt hg11 9 k10_9
    have k11_3 := kt hg11 3 k10_3
    have k11_13 := kt hg11 13 k10_13
    have k11_14 := kt hg11 14 k10_14
    have k11_4 := kt hg11 4 k10_4
    have k11_18 := kt hg11 18 k10_18
    have k11_19 := kt hg11 19 k10_19
    have k11_49 := kt hg11 49 (hB11.is 27)
    have k11_50 := kt hg11 50 (hB11.is 28)
    obtain ⟨W12, sw12, wm12, kq12, fB12⟩ := WebM.store q56' fB11 hN (i := i) (j := j) (by omega) (by omega) (min (m3 i j) ((m3 i k) + (m3 k j)))
    refine tsk (o := _) rfl ⟨rfl, rfl⟩ (sw12 (fr_ev k11_50) (fr_ev k11_49)) ?_
    have kp12 := KeepP.trans q55' kq12
    have z12 := kq12.size
    refine wpe ?_
    refine ibn ?_
    refine hK19 _ _ ?_
    refine ry 2 [(51, 0), (19, 1)] [[], [0]] (rel [iI ((j : Int) + 1), iI ((j : Int) + 1)])
     ⟨fun f s W b c d h l a => opv rfl rfl (by simp [go_sem, a.e 19 ((h 1 19 rfl rfl).trans k11_19), IntWalk.i64_in ((j : Int) + 1) (by omega)]) rfl,
  fun f s W b c d h l a => opm (a.v 51 (c 0 rfl)), trivial⟩ ?_
    intro f13 s13 W13 hB13 g13 hg13 z13
    have fB13 := hB13.f fB12
    have q57' := (WebM.below wm12 hB13.below)
    have q58' := (KeepP.trans kp12 (KeepP.of_below hB13.below))
    refine wpe ?_
    have k13_0 := kt hg13 0 k11_0
    have k13_2 := kt hg13 2 k11_2
    have k13_8 := kt hg13 8 k11_8
    have k13_9 := kt hg13 9 k11_9
    have k13_3 := kt hg13 3 k11_3
    have k13_13 := kt hg13 13 k11_13
    have k13_14 := kt hg13 14 k11_14
    have k13_4 := kt hg13 4 k11_4
    have k13_18 := kt hg13 18 k11_18
    have k13_19 := kt hg13 19 (hB13.is 1)
    refine then_normal ?_
    exact ⟨_, by omega, g13, rfl, j + 1, (setM m3 i j (min (m3 i j) ((m3 i k) + (m3 k j)))), rfl, k13_0, k13_2, k13_8, k13_9, k13_3, k13_13, k13_14, k13_4, k13_18, k13_19.trans (by go_num), fB13, (by omega), q58', q57', (by rw [inW, ← lc0]), (by omega)⟩
   ·
    have hc18' := hc18; try simp only [ba] at hc18'
    have hj3 : j = 3 := by omega
    refine wp_exit ?_
    refine then_exit ?_
    refine then_exit ?_
    refine inBlock_at ?_
    refine ibn ?_
    refine hK13 _ _ ?_
    refine ry 2 [(52, 0), (14, 1)] [[], [0]] (rel [iI ((i : Int) + 1), iI ((i : Int) + 1)])
     ⟨fun f s W b c d h l a => opv rfl rfl (by simp [go_sem, a.e 14 ((h 1 14 rfl rfl).trans k9_14), IntWalk.i64_in ((i : Int) + 1) (by omega)]) rfl,
  fun f s W b c d h l a => opm (a.v 52 (c 0 rfl)), trivial⟩ ?_
    intro f14 s14 W14 hB14 g14 hg14 z14
    have fB14 := hB14.f fB9
    have q59' := (KeepP.trans q51' (KeepP.of_below hB14.below))
    have q60' := (WebM.below q52' hB14.below)
    refine wpe ?_
    have k14_0 := kt hg14 0 k9_0
    have k14_2 := kt hg14 2 k9_2
    have k14_8 := kt hg14 8 k9_8
    have k14_9 := kt hg14 9 k9_9
    have k14_3 := kt hg14 3 k9_3
    have k14_13 := kt hg14 13 k9_13
    have k14_14 := kt hg14 14 (hB14.is 1)
    refine then_normal ?_
    exact ⟨_, by omega, g14, rfl, i + 1, m3, rfl, k14_0, k14_2, k14_8, k14_9, k14_3, k14_13, k14_14.trans (by go_num), fB14, (by omega), q59', q60', (by rw [lc0, hj3]; rfl), (by omega)⟩
  ·
   have hc12' := hc12; try simp only [ba] at hc12'
   have hi3 : i = 3 := by omega
   refine wp_exit ?_
   refine then_exit ?_
   refine then_exit ?_
   refine inBlock_at ?_
   refine ibn ?_
   refine hK7 _ _ ?_
   refine ry 2 [(53, 0), (9, 1)] [[], [0]] (rel [iI ((k : Int) + 1), iI ((k : Int) + 1)])
    ⟨fun f s W b c d h l a => opv rfl rfl (by simp [go_sem, a.e 9 ((h 1 9 rfl rfl).trans k6_9), IntWalk.i64_in ((k : Int) + 1) (by omega)]) rfl,
  fun f s W b c d h l a => opm (a.v 53 (c 0 rfl)), trivial⟩ ?_
   intro f15 s15 W15 hB15 g15 hg15 z15
   have fB15 := hB15.f fB6
   have q61' := (KeepP.trans q42' (KeepP.of_below hB15.below))
   have q62' := (WebM.below q43' hB15.below)
   refine wpe ?_
   have k15_0 := kt hg15 0 k6_0
   have k15_2 := kt hg15 2 k6_2
   have k15_8 := kt hg15 8 k6_8
   have k15_9 := kt hg15 9 (hB15.is 1)
   refine then_normal ?_
   exact ⟨_, by omega, g15, rfl, k + 1, m2, rfl, k15_0, k15_2, k15_8, k15_9.trans (by go_num), fB15, (by omega), q61', q62', (by rw [lb0, hi3]; rfl), (by omega)⟩
 ·
  have hc6' := hc6; try simp only [ba] at hc6'
  have hk3 : k = 3 := by omega
  refine wp_exit ?_
  refine then_exit ?_
  refine then_exit ?_
  refine inBlock_at ?_
  refine hK2 _ _ ?_
  refine wp_seq_k fun K21 hK21 => ?_
  refine rw_ 3 [(54, 0), (55, 1), (56, 2)] [[], [0], []] (rel [is (.slice (some ⟨bw, 0, none⟩) 3 cw), iI 3, iI 0])
   ⟨fun f s W b c d h l a => opm (a.v 0 k3_0),
  fun f s W b c d h l a => opv rfl rfl (by simp [go_sem, a.e 54 (c 0 rfl)]) rfl,
  fun f s W b c d h l a => opz, trivial⟩ ?_
  intro f16 s16 W16 hB16 g16 hg16 z16
  have fB16 := hB16.f fB3
  have q63' := (KeepP.trans q33' (KeepP.of_below hB16.below))
  have q64' := (WebM.below q34' hB16.below)
  have k16_0 := kt hg16 0 k3_0
  have k16_2 := kt hg16 2 k3_2
  have k16_55 := kt hg16 55 (hB16.is 1)
  have k16_56 := kt hg16 56 (hB16.is 2)
  refine wp_block ?_
  refine wp_loop_n (fun m_ a_ W_ => ∃ g_ : Nat → Value, a_ = fr 68 g_ ∧ (∃ i : Nat, m_ = 3 - i ∧ g_ 0 = .slice (some ⟨bw, 0, none⟩) 3 cw ∧ g_ 2 = .bool false ∧ g_ 55 = .int .i64 3 ∧ g_ 56 = .int .i64 ((i : Int)) ∧ Below w.heap.size w W_ ∧ W16.heap.size ≤ W_.heap.size ∧ KeepP (WebT R) X W_ ∧ WebM bw R Q m1 W_ ∧ (i ≤ 3))) ⟨_, g16, rfl, 0, rfl, k16_0, k16_2, k16_55, k16_56.trans (by rfl), fB16, Nat.le_refl _, q63', q64', (by omega)⟩ ?_
  rintro _ _ W_65 ⟨g_65, rfl, i, rfl, k_65_0, k_65_2, k_65_55, k_65_56, fB_65, z_65, q66', q67', ld0⟩
  refine rw_ 1 [(57, 0)] [[]] (rel [iB (decide ((i : Int) < 3))])
   ⟨fun f s W b c d h l a => opv rfl rfl (by simp [go_sem, a.e 56 k_65_56, a.e 55 k_65_55]) rfl, trivial⟩ ?_
  intro f17 s17 W17 hB17 g17 hg17 z17
  have fB17 := hB17.f fB_65
  have q68' := (KeepP.trans q66' (KeepP.of_below hB17.below))
  have q69' := (WebM.below q67' hB17.below)
  have k17_56 := kt hg17 56 k_65_56
  have k17_57 := kt hg17 57 (hB17.is 0)
  refine wp_seq_k fun K24 hK24 => ?_
  refine wp_cond_split (t := decide ((i : Int) < 3)) ((fr_eval rfl).trans k17_57) (fun hc25 => ?_) (fun hc25 => ?_)
  ·
   have hc25' := hc25; try simp only [ba] at hc25'
   have hil_ : i < 3 := by omega
   have hd_ := hdg i hil_
   rw [← hk3, ← la0] at hd_
   refine wp_skip ?_
   refine hK24 _ _ ?_
   refine wp_seq_k fun K26 hK26 => ?_
   refine wp_block ?_
   refine rw_ 2 [(58, 0), (6, 1)] [[], [0]] (rel [iI ((i : Int)), iI ((i : Int))])
    ⟨fun f s W b c d h l a => opm (a.v 56 k17_56),
  fun f s W b c d h l a => opm (a.v 58 (c 0 rfl)), trivial⟩ ?_
   intro f18 s18 W18 hB18 g18 hg18 z18
   have fB18 := hB18.f fB17
   have q70' := (KeepP.trans q68' (KeepP.of_below hB18.below))
   have q71' := (WebM.below q69' hB18.below)
   have k18_0 := kt hg18 0 (kt hg17 0 k_65_0)
   have k18_2 := kt hg18 2 (kt hg17 2 k_65_2)
   have k18_55 := kt hg18 55 (kt hg17 55 k_65_55)
   have k18_56 := kt hg18 56 k17_56
   have k18_6 := kt hg18 6 (hB18.is 1)
   refine rw_ 8 [(59, 0), (60, 1), (61, 2), (62, 3), (63, 4), (64, 5), (65, 6), (66, 7)] [[], [], [0, 1], [2], [], [3, 4], [5], [6]] (rel [is (.slice (some ⟨bw, 0, none⟩) 3 cw), iI ((i : Int)), is (.pointer (some ⟨bw, i, none⟩)), is (.slice (some ⟨(R i), 0, none⟩) (3) ((Q i))), iI ((i : Int)), is (.pointer (some ⟨(R i), i, none⟩)), iI ((m1 i i)), iB false])
    ⟨fun f s W b c d h l a => opm (a.v 0 k18_0),
  fun f s W b c d h l a => opm (a.v 6 k18_6),
  fun f s W b c d h l a => by have li_ := Nat.not_le.2 (show i < 3 by omega); have li2_ : (i : Int) < 3 := (by omega); exact opv rfl rfl (by simp [go_sem, a.e 59 (c 0 rfl), a.e 60 (c 1 rfl), li_, li2_]) rfl,
  fun f s W b c d h l a => by have cu_ := WebM.row (WebM.below q71' b) (i := i) (by omega); exact opv rfl rfl (by simp [go_sem, a.e 61 (c 2 rfl), cu_]) rfl,
  fun f s W b c d h l a => opm (a.v 6 k18_6),
  fun f s W b c d h l a => by have li_ := Nat.not_le.2 (show i < 3 by omega); have li2_ : (i : Int) < 3 := (by omega); exact opv rfl rfl (by simp [go_sem, a.e 62 (c 3 rfl), a.e 63 (c 4 rfl), li_, li2_]) rfl,
  fun f s W b c d h l a => by have cu_ := WebM.cell (WebM.below q71' b) (i := i) (j := i) (by omega) (by omega); exact opv rfl rfl (by simp [go_sem, a.e 64 (c 5 rfl), cu_]) rfl,
  fun f s W b c d h l a => by have hdn_ : decide (m1 i i < 0) = false := decide_eq_false (by omega); exact opv rfl rfl (by simp [go_sem, a.e 65 (c 6 rfl), hdn_]) rfl, trivial⟩ ?_
   intro f19 s19 W19 hB19 g19 hg19 z19
   have fB19 := hB19.f fB18
   have q72' := (KeepP.trans q70' (KeepP.of_below hB19.below))
   have q73' := (WebM.below q71' hB19.below)
   have k19_0 := kt hg19 0 k18_0
   have k19_2 := kt hg19 2 k18_2
   have k19_55 := kt hg19 55 k18_55
   have k19_56 := kt hg19 56 k18_56
   have k19_66 := kt hg19 66 (hB19.is 7)
   refine wp_cond_false ((fr_eval rfl).trans k19_66) ?_
   refine wp_skip ?_
   refine ibn ?_
   refine hK26 _ _ ?_
   refine ry 2 [(67, 0), (56, 1)] [[], [0]] (rel [iI ((i : Int) + 1), iI ((i : Int) + 1)])
    ⟨fun f s W b c d h l a => opv rfl rfl (by simp [go_sem, a.e 56 ((h 1 56 rfl rfl).trans k19_56), IntWalk.i64_in ((i : Int) + 1) (by omega)]) rfl,
  fun f s W b c d h l a => opm (a.v 67 (c 0 rfl)), trivial⟩ ?_
   intro f20 s20 W20 hB20 g20 hg20 z20
   have fB20 := hB20.f fB19
   have q74' := (KeepP.trans q72' (KeepP.of_below hB20.below))
   have q75' := (WebM.below q73' hB20.below)
   refine wpe ?_
   have k20_0 := kt hg20 0 k19_0
   have k20_2 := kt hg20 2 k19_2
   have k20_55 := kt hg20 55 k19_55
   have k20_56 := kt hg20 56 (hB20.is 1)
   refine then_normal ?_
   exact ⟨_, by omega, g20, rfl, i + 1, rfl, k20_0, k20_2, k20_55, k20_56.trans (by go_num), fB20, (by omega), q74', q75', (by omega)⟩
  ·
   have hc25' := hc25; try simp only [ba] at hc25'
   refine wp_exit ?_
   refine then_exit ?_
   refine then_exit ?_
   refine inBlock_at ?_
   refine hK21 _ _ ?_
   refine rw_ 1 [(2, 0)] [[]] (rel [iB true])
    ⟨fun f s W b c d h l a => opz, trivial⟩ ?_
   intro f21 s21 W21 hB21 g21 hg21 z21
   have fB21 := hB21.f fB17
   have q76' := (KeepP.trans q68' (KeepP.of_below hB21.below))
   have q77' := (WebM.below q69' hB21.below)
   have k21_2 := kt hg21 2 (hB21.is 0)
   refine wp_ret ?_
   refine leave_one (N := 68) (.inr rfl) Try.results77 rfl k21_2 ?_
   rw [la0, hk3] at q77'
   exact ⟨rfl, q77', q76', fB21⟩
def exM0 : Nat → Nat → Int := (fun i j => if i = 0 then (if j = 0 then 0 else if j = 1 then 3019 else 1099511627776) else if i = 1 then (if j = 0 then -3015 else if j = 1 then 0 else 6000) else (if j = 0 then 1099511627776 else if j = 1 then -6000 else 0))
theorem exM_sm : smB exM0 = true := by kernel_rfl
theorem exM_end : (ouW exM0 3 0 0 = 0 ∧ ouW exM0 3 0 1 = 3019 ∧ ouW exM0 3 0 2 = 9019) ∧ (ouW exM0 3 1 0 = -3015 ∧ ouW exM0 3 1 1 = 0 ∧ ouW exM0 3 1 2 = 6000) ∧ ouW exM0 3 2 0 = -9015 ∧ ouW exM0 3 2 1 = -6000 ∧ ouW exM0 3 2 2 = 0 := by
  refine ⟨⟨?_, ?_, ?_⟩, ⟨?_, ?_, ?_⟩, ?_, ?_, ?_⟩ <;> kernel_rfl
theorem web_close (bw ua pa ub pb uc pc cw : Nat) (w X : World) (hbX : Below w.heap.size w X) (hR : WebR w.heap.size bw ua pa ub pb uc pc 0 3019 1099511627776 (-3015) 0 6000 1099511627776 (-6000) 0 X) :
    Calls Try.prog 77 #[.slice (some ⟨bw, 0, none⟩) 3 cw] X (fun e w' => e = .returned (.bool true) ∧ WebR w.heap.size bw ua pa ub pb uc pc 0 3019 9019 (-3015) 0 6000 (-9015) (-6000) 0 w' ∧ KeepP (WebS ua ub uc) X w' ∧ Below w.heap.size w w') := by
  have hlb_ := hR.lb
  have hne_ := hR.ne
  have hN : WebN w.heap.size bw (fun i => if i = 0 then ua else if i = 1 then ub else uc) := ⟨fun i hi => by
    match i, hi with
    | 0, _ => exact ⟨hlb_.2.1, hne_.1⟩
    | 1, _ => exact ⟨hlb_.2.2.1, hne_.2.1⟩
    | 2, _ => exact ⟨hlb_.2.2.2, hne_.2.2.1⟩, fun i j hi hj e => by
    match i, hi, j, hj with
    | 0, _, 0, _ => rfl
    | 1, _, 1, _ => rfl
    | 2, _, 2, _ => rfl
    | 0, _, 1, _ => exact absurd e hne_.2.2.2.1
    | 0, _, 2, _ => exact absurd e hne_.2.2.2.2.1
    | 1, _, 2, _ => exact absurd e hne_.2.2.2.2.2
    | 1, _, 0, _ => exact absurd e.symm hne_.2.2.2.1
    | 2, _, 0, _ => exact absurd e.symm hne_.2.2.2.2.1
    | 2, _, 1, _ => exact absurd e.symm hne_.2.2.2.2.2⟩
  obtain ⟨⟨e00, e01, e02⟩, ⟨e10, e11, e12⟩, e20, e21, e22⟩ := exM_end
  refine Calls.mono (webM_close bw cw (fun i => if i = 0 then ua else if i = 1 then ub else uc) (fun i => if i = 0 then pa else if i = 1 then pb else pc) exM0 w X hbX hN ⟨hR.hb, fun i hi => ?_⟩ (smW_of exM_sm) (fun i hi => ?_)) fun e w' h => ?_
  · match i, hi with
    | 0, _ => exact hR.h0
    | 1, _ => exact hR.h1
    | 2, _ => exact hR.h2
  · match i, hi with
    | 0, _ => rw [e00]; decide
    | 1, _ => rw [e11]; decide
    | 2, _ => rw [e22]; decide
  · obtain ⟨h1, h2, h3, h4⟩ := h
    have k0 := h2.hr 0 (by decide)
    have k1 := h2.hr 1 (by decide)
    have k2 := h2.hr 2 (by decide)
    rw [e00, e01, e02] at k0
    rw [e10, e11, e12] at k1
    rw [e20, e21, e22] at k2
    refine ⟨h1, ⟨h2.hb, k0, k1, k2, hlb_, hne_⟩, h3.more fun b hb => ?_, h4⟩
    obtain ⟨i, hi, e⟩ := hb
    match i, hi with
    | 0, _ => exact .inl e
    | 1, _ => exact .inr (.inl e)
    | 2, _ => exact .inr (.inr e)
end Go.Proofs.Ytcgccflcjejlhaa
