/- Part of the proof: what the claim leans on. -/
import Derived.Test.YtcgccflcjejlhaaVAZ
import Derived.Test.YtcgccflcjejlhaaVAW
import Derived.Test.YtcgccflcjejlhaaVAI
import Derived.Test.YtcgccflcjejlhaaVAS
set_option maxHeartbeats 8000000
set_option maxRecDepth 100000
set_option linter.unusedSimpArgs false
set_option linter.unusedVariables false
namespace Go.Proofs.Ytcgccflcjejlhaa
open Go.RowKit
def pkS (ss : Nat → Int × Int) (xs : List Int) (i : Nat) : Int × Int := ss (elT xs i).toNat
def IsLs (B : Nat) (nu de tl : Int) (ra : Option Addr) (n c : Nat) (qa : Option Addr) (m cq many : Nat) (v : Value) (W : World) : Prop := ∃ bm bp, v = .func (.func 82) #[] #[.pointer (some ⟨bm, 0, none⟩), .pointer (some ⟨bp, 0, none⟩)] ∧ W.heap[bm]? = some (.cells #[.int .i64 ((many : Int))] 3 (0, 0)) ∧ W.heap[bp]? = some (.cells #[.int .i64 nu, .int .i64 de, .int .i64 tl, .slice ra n c, .slice qa m cq] 130 (0, 0)) ∧ B ≤ bm ∧ B ≤ bp
theorem IsLs.below {B : Nat} {nu de tl : Int} {ra : Option Addr} {n c : Nat} {qa : Option Addr} {m cq many : Nat} {v : Value} {W W' : World} (h : IsLs B nu de tl ra n c qa m cq many v W) (hb : Below W.heap.size W W') : IsLs B nu de tl ra n c qa m cq many v W' := by
  obtain ⟨bm, bp, e, h1, h2, h3⟩ := h; exact ⟨bm, bp, e, bwb h1 hb, bwb h2 hb, h3⟩
def IsStd (nu de tl : Int) (k : Nat) (ss : Nat → Int × Int) (v : Value) (W : World) : Prop := ∃ a c, v = .agg #[.int .i64 nu, .int .i64 de, .int .i64 tl, .slice a k c] ∧ SpL W a k ss
theorem IsStd.below {nu de tl : Int} {k : Nat} {ss : Nat → Int × Int} {v : Value} {W W' : World} (h : IsStd nu de tl k ss v W) (hb : Below W.heap.size W W') : IsStd nu de tl k ss v W' := by
  obtain ⟨a, c, e, h⟩ := h; exact ⟨a, c, e, h.below hb⟩
theorem GoodL.at {n : Nat} {xs : List Int} (h : GoodL n xs) {k : Nat} (hk : k < xs.length) : ∃ u : Nat, u < n ∧ elT xs k = (u : Int) := by
  have hm : elT xs k ∈ xs := by unfold elT; rw [List.getD_eq_getElem?_getD, List.getElem?_eq_getElem hk]; exact List.getElem_mem hk
  have := h.1 _ hm
  exact ⟨(elT xs k).toNat, by omega, by omega⟩
theorem pkS_in {tl : Int} {ss : Nat → Int × Int} {n : Nat} {xs : List Int} (ho : ∀ i, i < n → RoIn tl (ss i)) (h : GoodL n xs) : ∀ i, i < xs.length → RoIn tl (pkS ss xs i) := fun i hi => by
  obtain ⟨u, hu, e⟩ := h.at hi
  unfold pkS; rw [e]; exact ho _ (by simpa using hu)
theorem ro_lists (nu de tl : Int) (ra : Option Addr) (n c : Nat) (qa : Option Addr) (m cq many : Nat) (w : World) :
  Calls Try.prog 39 #[.agg #[.int .i64 nu, .int .i64 de, .int .i64 tl, .slice ra n c, .slice qa m cq], .int .i64 ((many : Int))] w (fun e w' => ∃ v, e = .returned v ∧ IsLs w.heap.size nu de tl ra n c qa m cq many v w' ∧ Below w.heap.size w w') := by
 refine calls_fr Try.func39 Try.ntmps39 rfl rfl fun g hg => ?_
 have k0 : g 0 = .agg #[.int .i64 nu, .int .i64 de, .int .i64 tl, .slice ra n c, .slice qa m cq] := hg 0
 have k1 : g 1 = .int .i64 ((many : Int)) := hg 1
 clear hg
 have fB0 : Below w.heap.size w w := Below.refl _ _
 refine rw_ 3 [(2, 0), (3, 1), (4, 2)] [[], [], []] (rel [bx 0 #[.int .i64 nu, .int .i64 de, .int .i64 tl, .slice ra n c, .slice qa m cq] 130, bx 1 #[.int .i64 ((many : Int))] 3, is (.nilFunc)])
  ⟨fun f s W d h i j k a => opb rfl rfl (by simp [go_sem, a.e 0 k0]),
  fun f s W d h i j k a => opb rfl rfl (by simp [go_sem, a.e 1 k1]),
  fun f s W d h i j k a => opv rfl rfl (by simp [go_sem]) rfl, trivial⟩ ?_
 intro f1 s1 W1 hB1 g1 hg1 z1
 obtain ⟨r1_0, br1_0⟩ := hB1.is 0
 have lr1_0 := hB1.lr 0 br1_0
 obtain ⟨r1_1, br1_1⟩ := hB1.is 1
 have lr1_1 := hB1.lr 1 br1_1
 have ne1_0_1 := hB1.nb 0 1
 have k1_2 := kt hg1 2 r1_0
 have k1_3 := kt hg1 3 r1_1
 refine rw_ 2 [(5, 0), (4, 1)] [[], [0]] (rel [is (.func (.func 82) #[] #[.pointer (some ⟨(s1 1), 0, none⟩), .pointer (some ⟨(s1 0), 0, none⟩)]), is (.func (.func 82) #[] #[.pointer (some ⟨(s1 1), 0, none⟩), .pointer (some ⟨(s1 0), 0, none⟩)])])
  ⟨fun f s W d h i j k a => opv rfl rfl (by simp [go_sem, a.e 3 k1_3, a.e 2 k1_2]) rfl,
  fun f s W d h i j k a => opm (a.v 5 (h 0 rfl)), trivial⟩ ?_
 intro f2 s2 W2 hB2 g2 hg2 z2
 have fB2 := hB2.f (hB1.f fB0)
 have b2_0 := hB2.b br1_0
 have b2_1 := hB2.b br1_1
 have k2_4 := kt hg2 4 (hB2.is 1)
 refine wp_ret ?_
 refine leave_one (N := 6) (.inr rfl) Try.results39 rfl k2_4 ?_
 exact ⟨_, rfl, ⟨_, _, rfl, b2_1, b2_0, by omega, by omega⟩, fB2⟩
theorem iis_elT {xs : List Int} {k : Nat} (h : k < xs.length) : (iis xs)[k]? = some (.int .i64 (elT xs k)) := by
  unfold iis elT; rw [List.getElem?_map, List.getElem?_eq_getElem h, List.getD_eq_getElem?_getD, List.getElem?_eq_getElem h]; rfl
theorem ro_picked (nu de tl : Int) (ss : Nat → Int × Int) (ra : Option Addr) (n c : Nat) (qa : Option Addr) (m cq : Nat) (xs : List Int) (v gl cl : Nat) (w : World) (hO : SpL w ra n ss) (gn : n ≤ 6) (hG : GoodL n xs) (hl6 : xs.length ≤ 6) (hL : OwnR 3 1 v xs.length (iis xs) gl cl w) :
  Calls Try.prog 40 #[.agg #[.int .i64 nu, .int .i64 de, .int .i64 tl, .slice ra n c, .slice qa m cq], .slice (some ⟨gl, 0, none⟩) (xs.length) cl] w (fun e w' => ∃ a_ c_, e = .returned (.agg #[.int .i64 nu, .int .i64 de, .int .i64 tl, .slice a_ xs.length c_]) ∧ SpL w' a_ xs.length (pkS ss xs) ∧ Below w.heap.size w w') := by
 refine calls_fr Try.func40 Try.ntmps40 rfl rfl fun g hg => ?_
 have k0 : g 0 = .agg #[.int .i64 nu, .int .i64 de, .int .i64 tl, .slice ra n c, .slice qa m cq] := hg 0
 have k1 : g 1 = .slice (some ⟨gl, 0, none⟩) (xs.length) cl := hg 1
 clear hg
 have fB0 : Below w.heap.size w w := Below.refl _ _
 refine rw_ 2 [(2, 0), (4, 1)] [[], []] (rel [bx 0 #[.int .i64 nu, .int .i64 de, .int .i64 tl, .slice ra n c, .slice qa m cq] 130, bx 1 #[.int .i64 0, .int .i64 0, .int .i64 0, .slice none 0 0] 128])
  ⟨fun f s W d h i j l a => opb rfl rfl (by simp [go_sem, a.e 0 k0]),
  fun f s W d h i j l a => opb rfl rfl (by simp [go_sem]), trivial⟩ ?_
 intro f1 s1 W1 hB1 g1 hg1 z1
 obtain ⟨r1_0, br1_0⟩ := hB1.is 0
 have lr1_0 := hB1.lr 0 br1_0
 obtain ⟨r1_1, br1_1⟩ := hB1.is 1
 have lr1_1 := hB1.lr 1 br1_1
 have ne1_0_1 := hB1.nb 0 1
 have k1_2 := kt hg1 2 r1_0
 refine wp_seq_k fun K2 hK2 => ?_
 refine ry 11 [(8, 0), (9, 1), (10, 2), (11, 3), (12, 4), (13, 5), (14, 6), (15, 7), (16, 8), (17, 9), (5, 10)] [[], [0], [1], [2], [], [4], [5], [6], [3, 7], [8], [], [0, 1, 2, 3, 4, 5, 6, 7, 8, 9, 10]] (rel [is (.pointer (some ⟨(s1 0), 0, none⟩)), is (.pointer (some ⟨(s1 0), 0, none⟩)), is (.pointer (some ⟨(s1 0), 0, none⟩)), is (.agg #[.int .i64 nu, .int .i64 de]), is (.pointer (some ⟨(s1 0), 0, none⟩)), is (.pointer (some ⟨(s1 0), 0, none⟩)), is (.pointer (some ⟨(s1 0), 2, none⟩)), iI tl, is (.agg #[.int .i64 nu, .int .i64 de, .int .i64 tl, .slice none 0 0]), is (.agg #[.int .i64 nu, .int .i64 de, .int .i64 tl, .slice none 0 0]), bx 10 #[.int .i64 0, .int .i64 0, .int .i64 0, .slice none 0 0] 128])
  ⟨fun f s W d h i j l a => opv rfl rfl (by simp [go_sem, a.e 2 k1_2]) rfl,
  fun f s W d h i j l a => opv rfl rfl (by simp [go_sem, a.e 8 (h 0 rfl)]) rfl,
  fun f s W d h i j l a => opv rfl rfl (by simp [go_sem, a.e 9 (h 1 rfl)]) rfl,
  fun f s W d h i j l a => opv rfl rfl (by simp [go_sem, a.e 10 (h 2 rfl), cb br1_0 d 0, cb br1_0 d 1]) rfl,
  fun f s W d h i j l a => opv rfl rfl (by simp [go_sem, a.e 2 k1_2]) rfl,
  fun f s W d h i j l a => opv rfl rfl (by simp [go_sem, a.e 12 (h 4 rfl)]) rfl,
  fun f s W d h i j l a => opv rfl rfl (by simp [go_sem, a.e 13 (h 5 rfl)]) rfl,
  fun f s W d h i j l a => opv rfl rfl (by simp [go_sem, a.e 14 (h 6 rfl), cb br1_0 d 2]) rfl,
  fun f s W d h i j l a => opv rfl rfl (by simp [go_sem, a.e 11 (h 3 rfl), a.e 15 (h 7 rfl)]) rfl,
  fun f s W d h i j l a => opv rfl rfl (by simp [go_sem, a.e 16 (h 8 rfl)]) rfl,
  fun f s W d h i j l a => opb rfl rfl (by simp [go_sem]), trivial⟩ ?_
 intro f2 s2 W2 hB2 g2 hg2 z2
 have fB2 := hB2.f (hB1.f fB0)
 have b2_0 := hB2.b br1_0
 have b2_1 := hB2.b br1_1
 obtain ⟨r2_10, br2_10⟩ := hB2.is 10
 have lr2_10 := hB2.lr 10 br2_10
 have k2_1 := kt hg2 1 (kt hg1 1 k1)
 have k2_17 := kt hg2 17 (hB2.is 9)
 have k2_5 := kt hg2 5 r2_10
 obtain ⟨W3, hW3⟩ : ∃ W', W' = W2.setRow (s2 10) #[.int .i64 nu, .int .i64 de, .int .i64 tl, .slice none 0 0] := ⟨_, rfl⟩
 refine tsk (o := _) rfl ⟨rfl, rfl⟩ (run_seg hW3 (fr_ev k2_5) (fr_ev k2_17) br2_10 rfl rfl rfl rfl) ?_
 obtain ⟨fB3, nb3, ot3, z3⟩ := sgf hW3 fB2 br2_10 (by omega)
 clear hW3
 have b3_0 := ot3 _ _ (by omega) b2_0
 have b3_1 := ot3 _ _ (by omega) b2_1
 refine wpe ?_
 refine hK2 _ _ ?_
 have on0 : OwnN 43 2 w.heap.size 0 (rowC (spC (pkS ss xs)) 0) none 0 W3 := ownN_nil
 refine wp_seq_k fun K3 hK3 => ?_
 refine rw_ 3 [(18, 0), (19, 1), (20, 2)] [[], [0], []] (rel [is (.slice (some ⟨gl, 0, none⟩) (xs.length) cl), iI ((xs.length : Int)), iI 0])
  ⟨fun f s W d h i j l a => opm (a.v 1 k2_1),
  fun f s W d h i j l a => opv rfl rfl (by simp [go_sem, a.e 18 (h 0 rfl)]) rfl,
  fun f s W d h i j l a => opz, trivial⟩ ?_
 intro f4 s4 W4 hB4 g4 hg4 z4
 have fB4 := hB4.f fB3
 have b4_0 := hB4.b b3_0
 have b4_1 := hB4.b b3_1
 have b4_2 := hB4.b nb3
 have q1' := (on0.below hB4.below)
 have k4_2 := kt hg4 2 (kt hg2 2 k1_2)
 have k4_4 := kt hg4 4 (kt hg2 4 (kt hg1 4 r1_1))
 have k4_5 := kt hg4 5 k2_5
 have k4_18 := kt hg4 18 (hB4.is 0)
 have k4_19 := kt hg4 19 (hB4.is 1)
 have k4_20 := kt hg4 20 (hB4.is 2)
 refine wp_block ?_
 refine wp_loop_n (fun m_ a_ W_ => ∃ g_ : Nat → Value, a_ = fr 40 g_ ∧ (∃ k : Nat, ∃ aq : Option Addr, ∃ cq2 : Nat, m_ = xs.length - k ∧ g_ 2 = .pointer (some ⟨(s1 0), 0, none⟩) ∧ g_ 4 = .pointer (some ⟨(s1 1), 0, none⟩) ∧ g_ 5 = .pointer (some ⟨(s2 10), 0, none⟩) ∧ g_ 18 = .slice (some ⟨gl, 0, none⟩) (xs.length) cl ∧ g_ 19 = .int .i64 ((xs.length : Int)) ∧ g_ 20 = .int .i64 ((k : Int)) ∧ Below w.heap.size w W_ ∧ W4.heap.size ≤ W_.heap.size ∧ W_.heap[(s1 0)]? = some (.cells #[.int .i64 nu, .int .i64 de, .int .i64 tl, .slice ra n c, .slice qa m cq] 130 (0, 0)) ∧ W_.heap[(s1 1)]? = some (.cells #[.int .i64 0, .int .i64 0, .int .i64 0, .slice none 0 0] 128 (0, 0)) ∧ W_.heap[(s2 10)]? = some (.cells #[.int .i64 nu, .int .i64 de, .int .i64 tl, .slice aq k cq2] 128 (0, 0)) ∧ OwnN 43 2 w.heap.size k (rowC (spC (pkS ss xs)) k) aq cq2 W_ ∧ (k ≤ xs.length))) ⟨_, g4, rfl, 0, none, 0, rfl, k4_2, k4_4, k4_5, k4_18, k4_19, k4_20.trans (by rfl), fB4, Nat.le_refl _, b4_0, b4_1, b4_2, q1', (by omega)⟩ ?_
 rintro _ _ W_2 ⟨g_2, rfl, k, aq, cq2, rfl, k_2_2, k_2_4, k_2_5, k_2_18, k_2_19, k_2_20, fB_2, z_2, b_2_0, b_2_1, m_2_0, q3', lk0⟩
 refine rw_ 1 [(21, 0)] [[]] (rel [iB (decide ((k : Int) < (xs.length : Int)))])
  ⟨fun f s W d h i j l a => opv rfl rfl (by simp [go_sem, a.e 20 k_2_20, a.e 19 k_2_19]) rfl, trivial⟩ ?_
 intro f5 s5 W5 hB5 g5 hg5 z5
 have fB5 := hB5.f fB_2
 have b5_1 := hB5.b b_2_1
 have b5_2 := hB5.b m_2_0
 have q4' := (q3'.below hB5.below)
 have k5_4 := kt hg5 4 k_2_4
 have k5_5 := kt hg5 5 k_2_5
 have k5_18 := kt hg5 18 k_2_18
 have k5_20 := kt hg5 20 k_2_20
 have k5_21 := kt hg5 21 (hB5.is 0)
 refine wp_seq_k fun K6 hK6 => ?_
 refine wp_cond_split (t := decide ((k : Int) < (xs.length : Int))) ((fr_eval rfl).trans k5_21) (fun hc7 => ?_) (fun hc7 => ?_)
 ·
  have hc7' := hc7; try simp only [ba] at hc7'
  have hkn : k < xs.length := by omega
  obtain ⟨u, hun_, hu_⟩ := hG.at hkn
  have hpk_ : pkS ss xs k = ss u := by unfold pkS; rw [hu_]; rfl
  obtain ⟨bo, oo, hra, hO'⟩ := hO.at hun_
  subst hra
  ·
   refine wp_skip ?_
   refine hK6 _ _ ?_
   refine wp_seq_k fun K8 hK8 => ?_
   refine wp_block ?_
   refine rw_ 3 [(22, 0), (23, 1), (7, 2)] [[], [0], [1]] (rel [is (.pointer (some ⟨gl, 0 + k * 1, none⟩)), iI ((u : Int)), iI ((u : Int))])
    ⟨fun f s W d h i j l a => by have li_ := Nat.not_le.2 (show k < xs.length by omega); have li2_ : (k : Int) < (xs.length : Int) := (by omega); exact opv rfl rfl (by simp [go_sem, a.e 18 k5_18, a.e 20 k5_20, li_, li2_]) rfl,
  fun f s W d h i j l a => by have p := bwt fB5 d; have cu_ := (OwnR.below hL p).cell k (iis_elT (by omega)); rw [hu_] at cu_; exact opv rfl rfl (by simp [go_sem, a.e 22 (h 0 rfl), cu_]) rfl,
  fun f s W d h i j l a => opm (a.v 23 (h 1 rfl)), trivial⟩ ?_
   intro f6 s6 W6 hB6 g6 hg6 z6
   have fB6 := hB6.f fB5
   have b6_0 := hB6.b (hB5.b b_2_0)
   have b6_1 := hB6.b b5_1
   have b6_2 := hB6.b b5_2
   have q5' := (q4'.below hB6.below)
   have k6_2 := kt hg6 2 (kt hg5 2 k_2_2)
   have k6_4 := kt hg6 4 k5_4
   have k6_5 := kt hg6 5 k5_5
   have k6_18 := kt hg6 18 k5_18
   have k6_19 := kt hg6 19 (kt hg5 19 k_2_19)
   have k6_20 := kt hg6 20 k5_20
   have k6_7 := kt hg6 7 (hB6.is 2)
   refine ry 11 [(24, 0), (25, 1), (26, 2), (27, 3), (28, 4), (29, 5), (30, 6), (31, 7), (32, 8), (33, 9), (34, 10), (35, 11), (36, 12), (37, 13)] [[], [0], [0, 1], [], [3], [3, 4], [3, 4, 5], [], [3, 4, 5, 6, 7], [3, 4, 5, 6, 7, 8], [3, 4, 5, 6, 7, 8, 9], [0, 1, 2, 3, 4, 5, 6, 7, 8, 9, 10], [0, 1, 2, 3, 4, 5, 6, 7, 8, 9, 10, 11], [0, 1, 2, 3, 4, 5, 6, 7, 8, 9, 10, 11, 12], [0, 1, 2, 3, 4, 5, 6, 7, 8, 9, 10, 11, 12, 13]] (rel [is (.pointer (some ⟨(s2 10), 0, none⟩)), is (.pointer (some ⟨(s2 10), 3, none⟩)), is (.slice aq k cq2), is (.pointer (some ⟨(s1 0), 0, none⟩)), is (.pointer (some ⟨(s1 0), 0, none⟩)), is (.pointer (some ⟨(s1 0), 3, none⟩)), is (.slice ((some ⟨bo, oo, none⟩)) (n) (c)), iI ((u : Int)), is (.pointer (some ⟨bo, oo + u * 2, none⟩)), is (.agg #[.int .i64 ((pkS ss xs k).1), .int .i64 ((pkS ss xs k).2)]), row 10 1 #[.int .i64 ((pkS ss xs k).1), .int .i64 ((pkS ss xs k).2)] 43])
    ⟨fun f s W d h i j l a => opv rfl rfl (by simp [go_sem, a.e 5 k6_5]) rfl,
  fun f s W d h i j l a => opv rfl rfl (by simp [go_sem, a.e 24 (h 0 rfl)]) rfl,
  fun f s W d h i j l a => opv rfl rfl (by simp [go_sem, a.e 25 (h 1 rfl), cb b6_2 d 3]) rfl,
  fun f s W d h i j l a => opv rfl rfl (by simp [go_sem, a.e 2 k6_2]) rfl,
  fun f s W d h i j l a => opv rfl rfl (by simp [go_sem, a.e 27 (h 3 rfl)]) rfl,
  fun f s W d h i j l a => opv rfl rfl (by simp [go_sem, a.e 28 (h 4 rfl)]) rfl,
  fun f s W d h i j l a => opv rfl rfl (by simp [go_sem, a.e 29 (h 5 rfl), cb b6_0 d 3]) rfl,
  fun f s W d h i j l a => opm (a.v 7 k6_7),
  fun f s W d h i j l a => by have li_ := Nat.not_le.2 (show u < n by omega); have li2_ : (u : Int) < (n : Int) := (by omega); have li3_ : (0 : Int) ≤ (u : Int) := (by omega); exact opv rfl rfl (by simp [go_sem, a.e 30 (h 6 rfl), a.e 31 (h 7 rfl), li_, li2_, li3_]) rfl,
  fun f s W d h i j l a => by have p := bwt fB6 d; have cu_ := (hO'.below p).2 u (by omega); rw [← hpk_] at cu_; have cu0_ := cu_.1; have cu1_ := cu_.2; exact opv rfl rfl (by simp [go_sem, a.e 32 (h 8 rfl), cu0_, cu1_]) rfl,
  fun f s W d h i j l a => opr rfl rfl (by simp [go_sem, a.e 33 (h 9 rfl)]), trivial⟩ ?_
   intro f7 s7 W7 hB7 g7 hg7 z7
   have fB7 := hB7.f fB6
   have b7_0 := hB7.b b6_0
   have b7_1 := hB7.b b6_1
   have b7_2 := hB7.b b6_2
   have q6' := (q5'.below hB7.below)
   obtain ⟨r7_10, br7_10⟩ := hB7.is 10
   have lr7_10 := hB7.lr 10 br7_10
   have k7_26 := kt hg7 26 (hB7.is 2)
   have k7_34 := kt hg7 34 r7_10
   obtain ⟨ga8, ca8, W8, ra8, ow8, ot8, z8, gg8, fB8⟩ := growN_tail 45 45 43 2 16 _ (by kernel_rfl) infoSp rfl (rowC (spC (pkS ss xs)) (k + 1)) (k + 1) (off := 0) (k := 1) (c' := 1) [.int .i64 ((pkS ss xs k).1), .int .i64 ((pkS ss xs k).2)] fB7 q6' rfl rfl rfl rfl (cells_at br7_10) (by omega)
   refine tail_value2 (o := _) rfl rfl rfl (run_appendOp (fr_ev k7_26) (fr_ev k7_34) ra8) ?_
   have b8_0 := ot8 _ _ (ownN_ne q6' b7_0 (by decide)) b7_0
   have b8_1 := ot8 _ _ (ownN_ne q6' b7_1 (by decide)) b7_1
   have b8_2 := ot8 _ _ (ownN_ne q6' b7_2 (by decide)) b7_2
   have on8 : OwnN 43 2 w.heap.size (k + 1) (rowC (spC (pkS ss xs)) (k + 1)) (some ⟨ga8, 0, none⟩) ca8 W8 := .inr ⟨_, rfl, ow8⟩
   generalize hg8 : upd g7 35 (.slice (some ⟨ga8, 0, none⟩) ((k + 1)) (ca8)) = g8
   have k8_5 := ku hg8 5 (kt hg7 5 k6_5)
   refine tail_value (o := _) rfl rfl rfl (v := .pointer (some ⟨(s2 10), 0, none⟩)) (by simp [go_sem, frv 40 k8_5]) ?_
   generalize hg9 : upd g8 36 (.pointer (some ⟨(s2 10), 0, none⟩)) = g9
   have k9_36 := kt hg9 36 (upd_same _ _ _)
   refine tail_value (o := _) rfl rfl rfl (v := .pointer (some ⟨(s2 10), 3, none⟩)) (by simp [go_sem, frv 40 k9_36]) ?_
   generalize hg10 : upd g9 37 (.pointer (some ⟨(s2 10), 3, none⟩)) = g10
   have k10_2 := ku hg10 2 (ku hg9 2 (ku hg8 2 (kt hg7 2 k6_2)))
   have k10_4 := ku hg10 4 (ku hg9 4 (ku hg8 4 (kt hg7 4 k6_4)))
   have k10_5 := ku hg10 5 (ku hg9 5 k8_5)
   have k10_18 := ku hg10 18 (ku hg9 18 (ku hg8 18 (kt hg7 18 k6_18)))
   have k10_19 := ku hg10 19 (ku hg9 19 (ku hg8 19 (kt hg7 19 k6_19)))
   have k10_20 := ku hg10 20 (ku hg9 20 (ku hg8 20 (kt hg7 20 k6_20)))
   have k10_35 := ku hg10 35 (ku hg9 35 (kt hg8 35 (upd_same _ _ _)))
   have k10_37 := kt hg10 37 (upd_same _ _ _)
   obtain ⟨W11, hW11⟩ : ∃ W', W' = W8.setRow (s2 10) #[.int .i64 nu, .int .i64 de, .int .i64 tl, .slice (some ⟨ga8, 0, none⟩) ((k + 1)) (ca8)] := ⟨_, rfl⟩
   refine tsk (o := _) rfl ⟨rfl, rfl⟩ (run_seg hW11 (fr_ev k10_37) (fr_ev k10_35) b8_2 rfl rfl rfl rfl) ?_
   obtain ⟨fB11, nb11, ot11, z11⟩ := sgf hW11 fB8 b8_2 (by omega)
   clear hW11
   have b11_0 := ot11 _ _ (by omega) b8_0
   have b11_1 := ot11 _ _ (by omega) b8_1
   have q7' := on8.other ot11 (ownN_ne on8 b8_2 (by decide)) z11
   refine wpe ?_
   refine ibn ?_
   refine hK8 _ _ ?_
   refine ry 2 [(38, 0), (20, 1)] [[], [0]] (rel [iI ((k : Int) + 1), iI ((k : Int) + 1)])
    ⟨fun f s W d h i j l a => opv rfl rfl (by simp [go_sem, a.e 20 ((j 1 20 rfl rfl).trans k10_20), IntWalk.i64_in ((k : Int) + 1) (by omega)]) rfl,
  fun f s W d h i j l a => opm (a.v 38 (h 0 rfl)), trivial⟩ ?_
   intro f12 s12 W12 hB12 g12 hg12 z12
   have fB12 := hB12.f fB11
   have b12_0 := hB12.b b11_0
   have b12_1 := hB12.b b11_1
   have b12_2 := hB12.b nb11
   have q8' := (q7'.below hB12.below)
   refine wpe ?_
   have k12_2 := kt hg12 2 k10_2
   have k12_4 := kt hg12 4 k10_4
   have k12_5 := kt hg12 5 k10_5
   have k12_18 := kt hg12 18 k10_18
   have k12_19 := kt hg12 19 k10_19
   have k12_20 := kt hg12 20 (hB12.is 1)
   refine then_normal ?_
   exact ⟨_, by omega, g12, rfl, k + 1, (some ⟨ga8, 0, none⟩), ca8, rfl, k12_2, k12_4, k12_5, k12_18, k12_19, k12_20.trans (by go_num), fB12, (by omega), b12_0, b12_1, b12_2, q8', (by omega)⟩
 ·
  have hc7' := hc7; try simp only [ba] at hc7'
  have hkn : xs.length = k := by omega
  refine wp_exit ?_
  refine then_exit ?_
  refine then_exit ?_
  refine inBlock_at ?_
  refine hK3 _ _ ?_
  refine wp_seq_k fun K10 hK10 => ?_
  refine ry 1 [(39, 0)] [[], [0]] (rel [is (.agg #[.int .i64 nu, .int .i64 de, .int .i64 tl, .slice aq k cq2])])
   ⟨fun f s W d h i j l a => opv rfl rfl (by simp [go_sem, a.e 5 k5_5, cb b5_2 d 0, cb b5_2 d 1, cb b5_2 d 2, cb b5_2 d 3]) rfl, trivial⟩ ?_
  intro f13 s13 W13 hB13 g13 hg13 z13
  have fB13 := hB13.f fB5
  have b13_1 := hB13.b b5_1
  have q9' := (q4'.below hB13.below)
  have k13_4 := kt hg13 4 k5_4
  have k13_39 := kt hg13 39 (hB13.is 0)
  obtain ⟨W14, hW14⟩ : ∃ W', W' = W13.setRow (s1 1) #[.int .i64 nu, .int .i64 de, .int .i64 tl, .slice aq k cq2] := ⟨_, rfl⟩
  refine tsk (o := _) rfl ⟨rfl, rfl⟩ (run_seg hW14 (fr_ev k13_4) (fr_ev k13_39) b13_1 rfl rfl rfl rfl) ?_
  obtain ⟨fB14, nb14, ot14, z14⟩ := sgf hW14 fB13 b13_1 (by omega)
  clear hW14
  have q10' := q9'.other ot14 (ownN_ne q9' b13_1 (by decide)) z14
  refine wpe ?_
  refine hK10 _ _ ?_
  refine wp_ret ?_
  refine leave_gen (v := .agg #[.int .i64 nu, .int .i64 de, .int .i64 tl, .slice aq k cq2]) (.inr rfl) (by simp [results, Try.results40, go_sem, frv 40 k13_4, Joins.cell_of_block nb14 0, Joins.cell_of_block nb14 1, Joins.cell_of_block nb14 2, Joins.cell_of_block nb14 3]) ?_
  rw [← hkn] at q10' ⊢
  exact ⟨_, _, rfl, ownN_spL q10', fB14⟩
open Go.RowKit
def ByV (W : World) (a : Option Addr) (n : Nat) (bs : Nat → Int) : Prop := n = 0 ∨ ∃ b o, a = some ⟨b, o, none⟩ ∧ ByR W b o n bs ∧ n ≤ 9223372036854775807 ∧ ∀ i, i < n → 0 ≤ bs i ∧ bs i ≤ 255
def byAt (n : Nat) (bs : Nat → Int) (k : Nat) : Int := if n = 0 then 0 else bs (k % n)
theorem ByV.below {W W' : World} {a : Option Addr} {n : Nat} {bs : Nat → Int} (h : ByV W a n bs) (hb : Below W.heap.size W W') : ByV W' a n bs := by
  rcases h with h | ⟨b, o, e, h1, h2, h3⟩
  · exact .inl h
  · exact .inr ⟨b, o, e, h1.below hb, h2, h3⟩
theorem ByV.at {W : World} {a : Option Addr} {n : Nat} {bs : Nat → Int} (h : ByV W a n bs) (k : Nat) : 0 ≤ byAt n bs k ∧ byAt n bs k ≤ 255 := by
  unfold byAt
  rcases h with h | ⟨b, o, e, h1, h2, h3⟩
  · rw [if_pos h]; omega
  · split
    · omega
    · exact h3 _ (Nat.mod_lt _ (by omega))
end Go.Proofs.Ytcgccflcjejlhaa
