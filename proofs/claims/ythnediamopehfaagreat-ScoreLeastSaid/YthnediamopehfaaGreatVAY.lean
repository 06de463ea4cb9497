/- Part of the proof: what the claim leans on. -/
import Derived.Test.YthnediamopehfaaGreatVAX
import Derived.Test.YthnediamopehfaaGreatVAW
set_option maxHeartbeats 400000
set_option maxRecDepth 100000
set_option linter.unusedSimpArgs false
set_option linter.unusedVariables false
namespace Go.Proofs.YthnediamopehfaaGreat
open Go.RowKit
theorem span_any (lo hi : Int) (w : World) :
  Calls Tryz.prog 19 #[.int .i64 lo, .int .i64 hi] w (fun e w' => e = .returned (.agg #[.int .i64 lo, .int .i64 hi]) ∧ Below w.heap.size w w') := by
 refine calls_fr Tryz.func19 Tryz.ntmps19 rfl rfl fun g hg => ?_
 have k0 : g 0 = .int .i64 lo := hg 0
 have k1 : g 1 = .int .i64 hi := hg 1
 clear hg
 have fB0 : Below w.heap.size w w := Below.refl _ _
 refine rw_ 1 [(4, 0)] [[]] (rel [bx 0 #[.int .i64 0, .int .i64 0] 26])
  ⟨fun f s W c d h i a ha => opb rfl rfl (by simp [go_sem]), trivial⟩ ?_
 intro f1 s1 W1 hB1 g1 hg1 z1
 obtain ⟨r1_0, br1_0⟩ := hB1.is 0
 have lr1_0 := hB1.lr 0 br1_0
 have k1_0 := kt hg1 0 k0
 have k1_1 := kt hg1 1 k1
 refine wp_seq_k fun K2 hK2 => ?_
 refine ry 3 [(5, 0), (6, 1), (7, 2)] [[], [], [0, 1], [0, 1, 2]] (rel [iI lo, iI hi, is (.agg #[.int .i64 lo, .int .i64 hi])])
  ⟨fun f s W c d h i a ha => opm (ha.v 0 k1_0),
  fun f s W c d h i a ha => opm (ha.v 1 k1_1),
  fun f s W c d h i a ha => opv rfl rfl (by simp [go_sem, ha.e 5 (d 0 rfl), ha.e 6 (d 1 rfl)]) rfl, trivial⟩ ?_
 intro f2 s2 W2 hB2 g2 hg2 z2
 have fB2 := hB2.f (hB1.f fB0)
 have b2_0 := hB2.b br1_0
 have k2_4 := kt hg2 4 (kt hg1 4 r1_0)
 have k2_7 := kt hg2 7 (hB2.is 2)
 obtain ⟨W3, hW3⟩ : ∃ W', W' = W2.setRow (s1 0) #[.int .i64 lo, .int .i64 hi] := ⟨_, rfl⟩
 refine tsk (o := _) rfl ⟨rfl, rfl⟩ (run_seg hW3 (fr_ev k2_4) (fr_ev k2_7) b2_0 rfl rfl rfl rfl) ?_
 obtain ⟨fB3, nb3, ot3, z3⟩ := sgf hW3 fB2 b2_0 (by omega)
 clear hW3
 refine wpe ?_
 refine hK2 _ _ ?_
 refine wp_ret ?_
 refine leave_gen (v := .agg #[.int .i64 lo, .int .i64 hi]) (.inr rfl) (by simp [results, Tryz.results19, go_sem, frv 8 k2_4, cl nb3 0, cl nb3 1]) ?_
 exact ⟨rfl, fB3⟩
def boxOf (long wide : Int) : Bl := ⟨35, [long, wide, long, wide], 208, [101, 101], [101, 101], 6, false⟩
theorem box_any (long wide : Int) (w : World) :
  Calls Tryz.prog 41 #[.int .i64 long, .int .i64 wide] w (NwBlkP (boxOf long wide) w) := by
 refine calls_fr Tryz.func41 Tryz.ntmps41 rfl rfl fun g hg => ?_
 have k0 : g 0 = .int .i64 long := hg 0
 have k1 : g 1 = .int .i64 wide := hg 1
 clear hg
 have fB0 : Below w.heap.size w w := Below.refl _ _
 refine rw_ 1 [(4, 0)] [[]] (rel [bx 0 #[.int .i64 0, .slice none 0 0, .int .i64 0, .slice none 0 0, .slice none 0 0, .int .i64 0, .bool false] 24])
  ⟨fun f s W c d i j a ha => opb rfl rfl (by simp [go_sem]), trivial⟩ ?_
 intro f1 s1 W1 hB1 g1 hg1 z1
 obtain ⟨r1_0, br1_0⟩ := hB1.is 0
 have lr1_0 := hB1.lr 0 br1_0
 have k1_0 := kt hg1 0 k0
 have k1_1 := kt hg1 1 k1
 refine wp_seq_k fun K2 hK2 => ?_
 refine rz 8 [(5, 0), (6, 1), (7, 2), (8, 3), (9, 4), (10, 5), (11, 6), (12, 7)] [[], [], [], [], [0, 1, 2, 3], [], [], [0, 1, 2, 3, 4, 5, 6], [0, 1, 2, 3, 4, 5, 6, 7]] (rel [iI long, iI wide, iI long, iI wide, row 4 4 #[.int .i64 long, .int .i64 wide, .int .i64 long, .int .i64 wide] 3, row 5 2 #[.int .i64 101, .int .i64 101] 3, row 6 2 #[.int .i64 101, .int .i64 101] 3, isS fun s => .agg #[.int .i64 35, .slice (some ⟨(s 4), 0, none⟩) (4) (4), .int .i64 208, .slice (some ⟨(s 5), 0, none⟩) (2) (2), .slice (some ⟨(s 6), 0, none⟩) (2) (2), .int .i64 6, .bool false]])
  ⟨is_k, is_k, is_k, is_k, row_k, row_k, row_k, isS_k fun s s' e => by rw [e 4 (by simp), e 5 (by simp), e 6 (by simp)], trivial⟩
  ⟨fun f s W c d i j a ha => opm (ha.v 0 k1_0),
  fun f s W c d i j a ha => opm (ha.v 1 k1_1),
  fun f s W c d i j a ha => opm (ha.v 0 k1_0),
  fun f s W c d i j a ha => opm (ha.v 1 k1_1),
  fun f s W c d i j a ha => opr rfl rfl (by simp [go_sem, ha.e 5 (d 0 rfl), ha.e 6 (d 1 rfl), ha.e 7 (d 2 rfl), ha.e 8 (d 3 rfl)]),
  fun f s W c d i j a ha => opr rfl rfl (by simp [go_sem]),
  fun f s W c d i j a ha => opr rfl rfl (by simp [go_sem]),
  fun f s W c d i j a ha => opv rfl rfl (by simp [go_sem, ha.e 9 (d 4 rfl).1, ha.e 10 (d 5 rfl).1, ha.e 11 (d 6 rfl).1, upd]) rfl, trivial⟩ ?_
 intro f2 s2 W2 hB2 g2 hg2 z2
 have fB2 := hB2.f (hB1.f fB0)
 have b2_0 := hB2.b br1_0
 obtain ⟨r2_4, br2_4⟩ := hB2.is 4
 have lr2_4 := hB2.lr 4 br2_4
 obtain ⟨r2_5, br2_5⟩ := hB2.is 5
 have lr2_5 := hB2.lr 5 br2_5
 obtain ⟨r2_6, br2_6⟩ := hB2.is 6
 have lr2_6 := hB2.lr 6 br2_6
 have ne2_4_5 : s2 4 ≠ s2 5 := hB2.ne 4 5 (by decide) (by decide) (by decide) (fun _ _ _ h => ltb h.2) (fun _ _ _ h => ltb h.2)
 have ne2_4_6 : s2 4 ≠ s2 6 := hB2.ne 4 6 (by decide) (by decide) (by decide) (fun _ _ _ h => ltb h.2) (fun _ _ _ h => ltb h.2)
 have ne2_5_6 : s2 5 ≠ s2 6 := hB2.ne 5 6 (by decide) (by decide) (by decide) (fun _ _ _ h => ltb h.2) (fun _ _ _ h => ltb h.2)
 have k2_4 := kt hg2 4 (kt hg1 4 r1_0)
 have k2_12 := kt hg2 12 (hB2.is 7)
 obtain ⟨W3, hW3⟩ : ∃ W', W' = W2.setRow (s1 0) #[.int .i64 35, .slice (some ⟨(s2 4), 0, none⟩) (4) (4), .int .i64 208, .slice (some ⟨(s2 5), 0, none⟩) (2) (2), .slice (some ⟨(s2 6), 0, none⟩) (2) (2), .int .i64 6, .bool false] := ⟨_, rfl⟩
 refine tsk (o := _) rfl ⟨rfl, rfl⟩ (run_seg hW3 (fr_ev k2_4) (fr_ev k2_12) b2_0 rfl rfl rfl rfl) ?_
 obtain ⟨fB3, nb3, ot3, z3⟩ := sgf hW3 fB2 b2_0 (by omega)
 clear hW3
 have b3_1 := ot3 _ _ (by omega) br2_4
 have b3_2 := ot3 _ _ (by omega) br2_5
 have b3_3 := ot3 _ _ (by omega) br2_6
 refine wpe ?_
 refine hK2 _ _ ?_
 refine wp_ret ?_
 refine leave_gen (v := .agg #[.int .i64 35, .slice (some ⟨(s2 4), 0, none⟩) (4) (4), .int .i64 208, .slice (some ⟨(s2 5), 0, none⟩) (2) (2), .slice (some ⟨(s2 6), 0, none⟩) (2) (2), .int .i64 6, .bool false]) (.inr rfl) (by simp [results, Tryz.results41, go_sem, frv 13 k2_4, cl nb3 0, cl nb3 1, cl nb3 2, cl nb3 3, cl nb3 4, cl nb3 5, cl nb3 6]) ?_
 exact ⟨_, rfl, ⟨_, _, _, _, _, _, rfl, ⟨ii_block (xs := [long, wide, long, wide]) b3_1 rfl rfl, by omega, ltb b3_1⟩, ⟨ii_block (xs := [101, 101]) b3_2 rfl rfl, by omega, ltb b3_2⟩, ⟨ii_block (xs := [101, 101]) b3_3 rfl rfl, by omega, ltb b3_3⟩⟩, fB3⟩
def wishV : Value := .agg #[.int .i64 300, .int .i64 301, .int .i64 200, .int .i64 201, .int .i64 200, .int .i64 202, .int .i64 (-3), .int .i64 0, .int .i64 0, .int .i64 200, .bool false]
theorem wish2_any (w : World) :
  Calls Tryz.prog 42 #[] w (fun e w' => e = .returned wishV ∧ Below w.heap.size w w') := by
 refine calls_fr Tryz.func42 Tryz.ntmps42 rfl rfl fun g hg => ?_
 clear hg
 have fB0 : Below w.heap.size w w := Below.refl _ _
 refine rw_ 1 [(0, 0)] [[]] (rel [bx 0 #[.int .i64 0, .int .i64 0, .int .i64 0, .int .i64 0, .int .i64 0, .int .i64 0, .int .i64 0, .int .i64 0, .int .i64 0, .int .i64 0, .bool false] 43])
  ⟨fun f s W c d h i a ha => opb rfl rfl (by simp [go_sem]), trivial⟩ ?_
 intro f1 s1 W1 hB1 g1 hg1 z1
 obtain ⟨r1_0, br1_0⟩ := hB1.is 0
 have lr1_0 := hB1.lr 0 br1_0
 refine wp_seq_k fun K2 hK2 => ?_
 refine ry 6 [(1, 0), (2, 1), (3, 2), (4, 3), (5, 4), (6, 5)] [[], [], [], [], [], [0, 1, 2, 3, 4], [0, 1, 2, 3, 4, 5]] (rel [is (.agg #[.int .i64 300, .int .i64 301]), is (.agg #[.int .i64 200, .int .i64 201]), is (.agg #[.int .i64 200, .int .i64 202]), is (.agg #[.int .i64 (-3), .int .i64 0]), is (.agg #[.int .i64 0, .int .i64 200]), is (.agg #[.int .i64 300, .int .i64 301, .int .i64 200, .int .i64 201, .int .i64 200, .int .i64 202, .int .i64 (-3), .int .i64 0, .int .i64 0, .int .i64 200, .bool false])])
  ⟨fun f s W c d h i a ha => opc rfl rfl (by simp [go_sem]) (span_any (300) (301) W),
  fun f s W c d h i a ha => opc rfl rfl (by simp [go_sem]) (span_any (200) (201) W),
  fun f s W c d h i a ha => opc rfl rfl (by simp [go_sem]) (span_any (200) (202) W),
  fun f s W c d h i a ha => opc rfl rfl (by simp [go_sem]) (span_any (-3) (0) W),
  fun f s W c d h i a ha => opc rfl rfl (by simp [go_sem]) (span_any (0) (200) W),
  fun f s W c d h i a ha => opv rfl rfl (by simp [go_sem, ha.e 1 (d 0 rfl), ha.e 2 (d 1 rfl), ha.e 3 (d 2 rfl), ha.e 4 (d 3 rfl), ha.e 5 (d 4 rfl)]) rfl, trivial⟩ ?_
 intro f2 s2 W2 hB2 g2 hg2 z2
 have fB2 := hB2.f (hB1.f fB0)
 have b2_0 := hB2.b br1_0
 have k2_0 := kt hg2 0 (kt hg1 0 r1_0)
 have k2_6 := kt hg2 6 (hB2.is 5)
 obtain ⟨W3, hW3⟩ : ∃ W', W' = W2.setRow (s1 0) #[.int .i64 300, .int .i64 301, .int .i64 200, .int .i64 201, .int .i64 200, .int .i64 202, .int .i64 (-3), .int .i64 0, .int .i64 0, .int .i64 200, .bool false] := ⟨_, rfl⟩
 refine tsk (o := _) rfl ⟨rfl, rfl⟩ (run_seg hW3 (fr_ev k2_0) (fr_ev k2_6) b2_0 rfl rfl rfl rfl) ?_
 obtain ⟨fB3, nb3, ot3, z3⟩ := sgf hW3 fB2 b2_0 (by omega)
 clear hW3
 refine wpe ?_
 refine hK2 _ _ ?_
 refine wp_ret ?_
 refine leave_gen (v := .agg #[.int .i64 300, .int .i64 301, .int .i64 200, .int .i64 201, .int .i64 200, .int .i64 202, .int .i64 (-3), .int .i64 0, .int .i64 0, .int .i64 200, .bool false]) (.inr rfl) (by simp [results, Tryz.results42, go_sem, frv 7 k2_0, cl nb3 0, cl nb3 1, cl nb3 2, cl nb3 3, cl nb3 4, cl nb3 5, cl nb3 6, cl nb3 7, cl nb3 8, cl nb3 9, cl nb3 10]) ?_
 exact ⟨rfl, fB3⟩
def wishB : Wi := ⟨(300, 301), (200, 201), (200, 202), (-3, 0), (0, 200), false⟩
theorem kv_inner : innerErr (boxOf 304 204) (3000, 4000) 0 = 0 ∧ innerL (boxOf 304 204) (3000, 4000) 0 = [(300000, 301000), (200000, 201000), (300000, 301000), (200000, 201000), (200000, 202000), (-2000, -1000), (98000, 99000), (-2000, -1000), (98000, 99000)] := ⟨by kernel_rfl, by kernel_rfl⟩
theorem kv_close : wishedErr (boxOf 304 204) wishB [(2500, 4500)] = 0 ∧ closeL (boxOf 304 204) wishB (2500, 4500) = [(0, 2500), (1, 2500), (2, 2500), (3, 2500), (4, 2500)] := ⟨by kernel_rfl, by kernel_rfl⟩
theorem kv_cal : calOf (boxOf 304 204) wishB = (3000, 4000) ∧ calErr (boxOf 304 204) wishB = 0 := ⟨by kernel_rfl, by kernel_rfl⟩
theorem kv_blank : blankAll wishB 3000 4000 35 = (⟨35, [304, 204, 304, 204], 208, [101, 51], [101, 51], 4, false⟩, 0, 0) := by kernel_rfl
theorem kv_size : checkErr (boxOf 304 204) = 0 ∧ acrossOf (boxOf 304 204) = 1051 ∧ alongOf (boxOf 304 204) = 410 := ⟨by kernel_rfl, by kernel_rfl, by kernel_rfl⟩
theorem kv_scores : scoresOf (boxOf 304 204) = [35, 339, 543, 847] ∧ topOf (boxOf 304 204) = 101 := ⟨by kernel_rfl, by kernel_rfl⟩
theorem kv_play : checkedErr [boxOf 318 218, boxOf 304 204] [(3000, 4000), (3000, 4000)] = 0 ∧ playL (boxOf 318 218) (boxOf 304 204) (3000, 4000) (3000, 4000) = [(6000, 8000), (6000, 8000), (6000, 8000), (6000, 8000)] := ⟨by kernel_rfl, by kernel_rfl⟩
theorem kv_sort1 : sortI [200000, 300000, 201000] = [200000, 201000, 300000] := by simp [sortI, List.mergeSort, List.MergeSort.Internal.splitInTwo, List.merge]
theorem kv_sort2 : sortI [300000, 200000, 200000] = [200000, 200000, 300000] := by simp [sortI, List.mergeSort, List.MergeSort.Internal.splitInTwo, List.merge]
theorem kv_sort3 : sortI [301000, 201000, 202000] = [201000, 202000, 301000] := by simp [sortI, List.mergeSort, List.MergeSort.Internal.splitInTwo, List.merge]
theorem kv_holds : holdsErr (boxOf 304 204) (3000, 4000) [200, 300, 201] = 0 ∧ fitsOf (boxOf 304 204) 4000 [200, 300, 201] = false ∧ fitsOf (boxOf 304 204) 3000 [200, 300, 201] = true := by
  refine ⟨by kernel_rfl, ?_, ?_⟩
  · unfold fitsOf
    rw [show ([200, 300, 201] : List Int).map (1000 * ·) = [200000, 300000, 201000] from rfl, show roomOf (boxOf 304 204) 4000 = [300000, 200000, 200000] from by kernel_rfl, kv_sort1, kv_sort2]; rfl
  · unfold fitsOf
    rw [show ([200, 300, 201] : List Int).map (1000 * ·) = [200000, 300000, 201000] from rfl, show roomOf (boxOf 304 204) 3000 = [301000, 201000, 202000] from by kernel_rfl, kv_sort1, kv_sort3]; rfl
theorem kv_may : mayOf (boxOf 304 204) wishB 2500 4500 0 = (3000, 0) := by kernel_rfl
open Go.RowKit
theorem Sl.other {W W' : World} {g o n c b : Nat} {cs : List Value} (h : Sl W (some ⟨g, o, none⟩) n c cs) (hot : ∀ k x, k ≠ b → W.heap[k]? = some x → W'.heap[k]? = some x) (hg : g < W.heap.size) (hne : g ≠ b) (hz : W.heap.size ≤ W'.heap.size) : Sl W' (some ⟨g, o, none⟩) n c cs := by
  obtain ⟨h2, h3, h4, h5⟩ := h
  refine ⟨h2, h3, h4, ?_⟩
  rcases h5 with h5 | ⟨b', off, e, hlt, hc⟩
  · exact .inl h5
  · cases e
    refine .inr ⟨g, o, rfl, by omega, fun i hi => ?_⟩
    have hx : W.heap[g]? = some (W.heap[g]'hg) := Array.getElem?_eq_getElem hg
    have := World.cell?_of_block (w := W) (w' := W') (a := ⟨g, o + i, none⟩) (by show W'.heap[g]? = W.heap[g]?; rw [hot g _ hne hx, hx])
    exact this.trans (hc i hi)
theorem Pp.other {W W' : World} {g o n c b : Nat} {xs : List (Int × Int)} (h : Pp W (some ⟨g, o, none⟩) n c xs) (hot : ∀ k x, k ≠ b → W.heap[k]? = some x → W'.heap[k]? = some x) (hg : g < W.heap.size) (hne : g ≠ b) (hz : W.heap.size ≤ W'.heap.size) : Pp W' (some ⟨g, o, none⟩) n c xs :=
  ⟨h.1, h.2.other hot hg hne hz⟩
def IsPpL (n : Nat) (xs : List (Int × Int)) (v : Value) (W : World) : Prop := ∃ a o c, v = .slice (some ⟨a, o, none⟩) n c ∧ Pp W (some ⟨a, o, none⟩) n c xs ∧ a < W.heap.size
theorem IsPpL.below {n : Nat} {xs : List (Int × Int)} {v : Value} {W W' : World} (h : IsPpL n xs v W) (hb : Below W.heap.size W W') : IsPpL n xs v W' := by
  obtain ⟨a, o, c, e, h, hl⟩ := h; exact ⟨a, o, c, e, h.below hb (Nat.le_refl _), Nat.lt_of_lt_of_le hl hb.size⟩
theorem isPpL_of {W : World} {a : Option Addr} {n c : Nat} {l xs : List (Int × Int)} (h : Pp W a n c l) (e : l = xs) (hne : decide (0 < xs.length) = true) : IsPpL xs.length xs (.slice a n c) W := by
  subst e
  have hn := h.1
  subst hn
  obtain ⟨b, off, rfl, hl, -⟩ := h.at (of_decide_eq_true hne)
  exact ⟨b, off, c, rfl, h, hl⟩
theorem ppl_cell {W : World} {a o n c : Nat} {xs : List (Int × Int)} (h : Pp W (some ⟨a, o, none⟩) n c xs) (i : Nat) (hi : decide (i < xs.length) = true) :
    W.cell? ⟨a, o + i * 2, none⟩ = some (.int .i64 (xs.getD i (0, 0)).1) ∧ W.cell? ⟨a, o + i * 2 + 1, none⟩ = some (.int .i64 (xs.getD i (0, 0)).2) := by
  have hi' := of_decide_eq_true hi
  obtain ⟨b, off, e, -, hc⟩ := h.at (by omega)
  cases e
  exact hc i hi'
def IsIiL (n : Nat) (xs : List Int) (v : Value) (W : World) : Prop := ∃ a o c, v = .slice (some ⟨a, o, none⟩) n c ∧ Ii W (some ⟨a, o, none⟩) n c xs ∧ a < W.heap.size
theorem IsIiL.below {n : Nat} {xs : List Int} {v : Value} {W W' : World} (h : IsIiL n xs v W) (hb : Below W.heap.size W W') : IsIiL n xs v W' := by
  obtain ⟨a, o, c, e, h, hl⟩ := h; exact ⟨a, o, c, e, h.below hb (Nat.le_refl _), Nat.lt_of_lt_of_le hl hb.size⟩
theorem isIiL_of {W : World} {a : Option Addr} {n c : Nat} {l xs : List Int} (h : Ii W a n c l) (e : l = xs) (hne : decide (0 < xs.length) = true) : IsIiL xs.length xs (.slice a n c) W := by
  subst e
  have hn := h.1
  subst hn
  obtain ⟨b, off, rfl, hl, -⟩ := h.at (of_decide_eq_true hne)
  exact ⟨b, off, c, rfl, h, hl⟩
def wantB : Bl := ⟨35, [304, 204, 304, 204], 208, [101, 51], [101, 51], 4, false⟩
theorem ii_ne {W : World} {g b n c : Nat} {xs r : List Int} {x : Int} {cells : Array Value} {t : TypeId} {o : Nat × Nat} {y : Value} (h : Ii W (some ⟨g, 0, none⟩) n c xs) (hb : W.heap[b]? = some (.cells cells t o)) (hx : xs = x :: r) (hy : cells[0]? = some y) (hxy : y ≠ .int .i64 x) : g ≠ b := by
  rintro rfl
  subst hx
  obtain ⟨b', off, e, -, hc⟩ := h.at (by simp)
  cases e
  have h1 := hc 0 (by simp)
  have h2 := Joins.cell_of_block hb 0
  rw [hy] at h2
  have h3 := h2.symm.trans h1
  simp at h3
  exact hxy h3
end Go.Proofs.YthnediamopehfaaGreat
