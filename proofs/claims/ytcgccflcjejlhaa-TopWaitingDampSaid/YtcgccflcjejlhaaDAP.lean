/- Part of the proof: what the claim leans on. -/
import Derived.Test.YtcgccflcjejlhaaDAO
import Derived.Test.YtcgccflcjejlhaaDAJ
import Derived.Test.YtcgccflcjejlhaaDAH
import Derived.Test.YtcgccflcjejlhaaDAG
import Derived.Test.YtcgccflcjejlhaaDAC
import Derived.Test.YtcgccflcjejlhaaDAI
set_option linter.unusedSimpArgs false
set_option linter.unusedVariables false
namespace Go.Proofs.Ytcgccflcjejlhaa
open Go.RowKit
/-- The starts of all jobs. -/
def StL (nm n : Nat) (st : Nat → List Int) (b : Nat) (ad cp : Nat → Nat) (W : World) : Prop := b < W.heap.size ∧ ∀ k, k < n → W.cell? ⟨b, k, none⟩ = some (.slice (some ⟨ad k, 0, none⟩) nm (cp k)) ∧ Ii W (some ⟨ad k, 0, none⟩) nm (cp k) (st k)
theorem StL.below {nm n b : Nat} {st : Nat → List Int} {ad cp : Nat → Nat} {W W' : World} (h : StL nm n st b ad cp W) (hb : Below W.heap.size W W') : StL nm n st b ad cp W' :=
  ⟨Nat.lt_of_lt_of_le h.1 hb.size, fun k hk => ⟨(hb.cell (p := ⟨b, k, none⟩) h.1).trans (h.2 k hk).1, (h.2 k hk).2.below hb (Nat.le_refl _)⟩⟩
def IsSt (nm n : Nat) (st : Nat → List Int) (v : Value) (W : World) : Prop := ∃ b ad cp, v = .slice (some ⟨b, 0, none⟩) n n ∧ StL nm n st b ad cp W
theorem IsSt.below {nm n : Nat} {st : Nat → List Int} {v : Value} {W W' : World} (h : IsSt nm n st v W) (hb : Below W.heap.size W W') : IsSt nm n st v W' := by
  obtain ⟨b, ad, cp, e, h⟩ := h; exact ⟨b, ad, cp, e, h.below hb⟩
theorem StS.all {V bS nm n : Nat} {od : Nat → Nat} {st : Nat → List Int} {W : World} (h : StS V bS nm n od n st W) (hs : ∀ k, k < n → ∃ j, j < n ∧ od j = k) : IsSt nm n st (.slice (some ⟨bS, 0, none⟩) n n) W := by
  obtain ⟨f, h1, h2⟩ := h
  have hx : ∀ k : Nat, ∃ q : Nat × Nat, k < n → f k = .slice (some ⟨q.1, 0, none⟩) nm q.2 ∧ Ii W (some ⟨q.1, 0, none⟩) nm q.2 (st k) := fun k => by
    by_cases hk : k < n
    · obtain ⟨g, c, e1, e2, -⟩ := h2 k hk (hs k hk); exact ⟨(g, c), fun _ => ⟨e1, e2⟩⟩
    · exact ⟨(0, 0), fun h => absurd h hk⟩
  obtain ⟨q, hq⟩ : ∃ q : Nat → Nat × Nat, ∀ k, k < n → f k = .slice (some ⟨(q k).1, 0, none⟩) nm (q k).2 ∧ Ii W (some ⟨(q k).1, 0, none⟩) nm (q k).2 (st k) := ⟨fun k => Classical.choose (hx k), fun k => Classical.choose_spec (hx k)⟩
  exact ⟨bS, fun k => (q k).1, fun k => (q k).2, rfl, h1.lt, fun k hk => ⟨by rw [h1.cell hk, (hq k hk).1], (hq k hk).2⟩⟩
theorem fl_region_seq {P : Program} {ops : Array Oper} {Q : Exit → Act → World → Prop} {id : Nat} {a : Act} {w : World} (h : wpOps P ops Q (List.range' 0 ops.size) a w) : (Code.region id ops false).wp P Q a w := by
  refine wp_region ?_
  rw [List.range_eq_range']; exact h
set_option maxRecDepth 100000 in
set_option maxHeartbeats 8000000 in
theorem starts_4 (nm ns : Nat) (CH : List (List Int)) (x : Fs) (js : Nat → Fj) (bc oc cc bs os_ sc bj oj cj : Nat) (sa : Option Addr) (adc : Nat → Option Addr) (kpc : Nat → Nat) (adj : Nat → Option Addr) (kpj : Nat → Nat) (od : Nat → Nat) (ao : Option Addr) (no co : Nat) (xs : List Int) (w : World) (hF : FlOk nm ns 4 CH x js) (hM : FlR nm ns 4 CH js x bc oc bs os_ bj oj sa adc kpc adj kpj w) (hX : Ii w ao no co xs) (hno : no = 4) (hod : ∀ i, i < 4 → elT xs i = ((od i : Nat) : Int) ∧ od i < 4) (hsort : (xs.mergeSort fun x y => decide (x ≤ y)) = (List.range 4).map (fun i : Nat => (i : Int))) (hsur : ∀ k, k < 4 → ∃ j, j < 4 ∧ od j = k) :
  Calls Try.prog 7 #[.agg #[.int .i64 ((nm : Int)), .slice (some ⟨bc, oc, none⟩) (2) (cc), .slice (sa) (ns) (sc)], .slice (some ⟨bj, oj, none⟩) (4) (cj), .slice (ao) (no) (co)] w (fun e w' => ∃ v, e = .returned (.tuple #[v, .int .i64 0]) ∧ IsSt nm 4 (runF (freeK ns x) (chK CH) nm js od 4).st v w' ∧ Below w.heap.size w w') := by
 refine calls_fr Try.func7 Try.ntmps7 rfl rfl fun g hg => ?_
 have k0 : g 0 = .agg #[.int .i64 ((nm : Int)), .slice (some ⟨bc, oc, none⟩) (2) (cc), .slice (sa) (ns) (sc)] := hg 0
 have k1 : g 1 = .slice (some ⟨bj, oj, none⟩) (4) (cj) := hg 1
 have k2 : g 2 = .slice (ao) (no) (co) := hg 2
 clear hg
 have fB0 : Below w.heap.size w w := Below.refl _ _
 refine wp_seq_k fun K1 hK1 => ?_
 refine region_dk 3 [(3, 0), (6, 1), (7, 2)] [[], [], [1]] (rel [bx 0 #[.int .i64 ((nm : Int)), .slice (some ⟨bc, oc, none⟩) (2) (cc), .slice (sa) (ns) (sc)] 29,
   is (.slice (none) (0) (0)),
   is (.int .i64 0)])
  ⟨bx_k, is_k, is_k, trivial⟩
  ⟨fun f s W c l m n p a => opb rfl rfl (by simp [go_sem, a.e 0 k0]),
  fun f s W c l m n p a => opv rfl rfl (by simp [go_sem]) rfl,
  fun f s W c l m n p a => opv rfl rfl (by simp [go_sem]) rfl, trivial⟩ ?_
 intro f1 s1 W1 hB1 g1 hg1
 have fB1 := hB1.f fB0
 have z1 := hB1.below.size
 obtain ⟨r1_0, br1_0⟩ := hB1.is 0
 have lr1_0 := hB1.lr 0 br1_0
 refine hK1 _ _ ?_
 have k1_1 := kt hg1 1 k1
 have k1_2 := kt hg1 2 k2
 have k1_3 := kt hg1 3 r1_0
 have k1_6 := kt hg1 6 (hB1.is 1)
 have k1_7 := kt hg1 7 (hB1.is 2)
 refine wp_seq_k fun K2 hK2 => ?_
 refine region_dk 8 [(11, 0), (12, 1), (13, 2), (14, 3), (10, 4), (15, 5), (16, 6), (8, 7), (9, 9)] [[], [], [], [0, 1, 2], [0, 1, 2, 3], [0, 1, 2, 3, 4], [0, 1, 2, 3, 4], [], [0, 1, 2, 3, 4, 5, 7], [0, 1, 2, 3, 4, 5, 6, 7, 8]] (rel [is (.agg #[.int .i64 ((nm : Int)), .slice (some ⟨bc, oc, none⟩) (2) (cc), .slice (sa) (ns) (sc)]),
   is (.slice (some ⟨bj, oj, none⟩) (4) (cj)),
   is (.slice (ao) (no) (co)),
   is (.tuple #[.agg #[.int .i64 ((nm : Int)), .slice (some ⟨bc, oc, none⟩) (2) (cc), .slice (sa) (ns) (sc), .slice (some ⟨bj, oj, none⟩) (4) (cj)], .int .i64 0]),
   is (.tuple #[.agg #[.int .i64 ((nm : Int)), .slice (some ⟨bc, oc, none⟩) (2) (cc), .slice (sa) (ns) (sc), .slice (some ⟨bj, oj, none⟩) (4) (cj)], .int .i64 0]),
   is (.agg #[.int .i64 ((nm : Int)), .slice (some ⟨bc, oc, none⟩) (2) (cc), .slice (sa) (ns) (sc), .slice (some ⟨bj, oj, none⟩) (4) (cj)]),
   is (.int .i64 0),
   bx 7 #[.int .i64 0, .slice (none) (0) (0), .slice (none) (0) (0), .slice (none) (0) (0)] 94])
  ⟨is_k, is_k, is_k, is_k, is_k, is_k, is_k, bx_k, trivial⟩
  ⟨fun f s W c l m n p a => opv rfl rfl (by simp [go_sem, a.e 3 k1_3, cb br1_0 c 0, cb br1_0 c 1, cb br1_0 c 2]) rfl,
  fun f s W c l m n p a => opv rfl rfl (by simp [go_sem, a.e 1 k1_1]) rfl,
  fun f s W c l m n p a => opv rfl rfl (by simp [go_sem, a.e 2 k1_2]) rfl,
  fun f s W c l m n p a => by have q := below_trans fB1 c; exact opc (args := #[.agg #[.int .i64 ((nm : Int)), .slice (some ⟨bc, oc, none⟩) (2) (cc), .slice (sa) (ns) (sc)], .slice (some ⟨bj, oj, none⟩) (4) (cj), .slice (ao) (no) (co)]) rfl rfl (by simp [go_sem, a.e 11 (l 0 rfl), a.e 12 (l 1 rfl), a.e 13 (l 2 rfl)]) (fl_order nm ns 4 CH x js bc oc cc bs os_ sc bj oj cj sa adc kpc adj kpj W hF (hM.below q) od ao no co xs (hX.below q (Nat.le_refl _)) hno hsort (by decide)),
  fun f s W c l m n p a => opv rfl rfl (by simp [go_sem, a.e 14 (l 3 rfl)]) rfl,
  fun f s W c l m n p a => opv rfl rfl (by simp [go_sem, a.e 10 (l 4 rfl)]) rfl,
  fun f s W c l m n p a => opv rfl rfl (by simp [go_sem, a.e 10 (l 4 rfl)]) rfl,
  fun f s W c l m n p a => opb rfl rfl (by simp [go_sem]), trivial⟩ ?_
 intro f2 s2 W2 hB2 g2 hg2
 have fB2 := hB2.f fB1
 have z2 := hB2.below.size
 have b2_0 := hB2.b br1_0
 obtain ⟨r2_7, br2_7⟩ := hB2.is 7
 have lr2_7 := hB2.lr 7 br2_7
 have k2_2 := kt hg2 2 k1_2
 have k2_6 := kt hg2 6 k1_6
 have k2_7 := kt hg2 7 k1_7
 have k2_15 := kt hg2 15 (hB2.is 5)
 have k2_16 := kt hg2 16 (hB2.is 6)
 have k2_8 := kt hg2 8 r2_7
 obtain ⟨W3, hW3⟩ : ∃ W', W' = W2.setRow (s2 7) #[.int .i64 ((nm : Int)), .slice (some ⟨bc, oc, none⟩) (2) (cc), .slice (sa) (ns) (sc), .slice (some ⟨bj, oj, none⟩) (4) (cj)] := ⟨_, rfl⟩
 refine tail_skip (o := _) rfl ⟨rfl, rfl⟩ (run_seg hW3 (fr_ev k2_8) (fr_ev k2_15) br2_7 rfl rfl rfl rfl) ?_
 obtain ⟨fB3, nb3, ot3, z3⟩ := seg_facts hW3 fB2 br2_7 (by omega)
 clear hW3
 have b3_0 := ot3 _ _ (by omega) b2_0
 refine tail_value (o := _) rfl rfl rfl (v := .int .i64 0) (by simp [go_sem, frv 24 k2_16]) ?_
 generalize hg4 : upd g2 9 (.int .i64 0) = g4
 have k4_2 := ku hg4 2 k2_2
 have k4_6 := ku hg4 6 k2_6
 have k4_7 := ku hg4 7 k2_7
 have k4_8 := ku hg4 8 k2_8
 have k4_9 := kt hg4 9 (upd_same _ _ _)
 refine wpOps_end ?_
 refine hK2 _ _ ?_
 refine wp_seq_k fun K3 hK3 => ?_
 refine wp_seq_k fun K4 hK4 => ?_
 refine region_dk 2 [(17, 0), (18, 1)] [[], [0]] (rel [is (.int .i64 0),
   is (.bool false)])
  ⟨is_k, is_k, trivial⟩
  ⟨fun f s W c l m n p a => opv rfl rfl (by simp [go_sem, a.e 9 k4_9]) rfl,
  fun f s W c l m n p a => opv rfl rfl (by simp [go_sem, a.e 17 (l 0 rfl)]) rfl, trivial⟩ ?_
 intro f5 s5 W5 hB5 g5 hg5
 have fB5 := hB5.f fB3
 have z5 := hB5.below.size
 have b5_0 := hB5.b b3_0
 have b5_1 := hB5.b nb3
 refine hK4 _ _ ?_
 have k5_2 := kt hg5 2 k4_2
 have k5_6 := kt hg5 6 k4_6
 have k5_7 := kt hg5 7 k4_7
 have k5_8 := kt hg5 8 k4_8
 have k5_9 := kt hg5 9 k4_9
 have k5_18 := kt hg5 18 (hB5.is 1)
 refine wp_cond_false ((fr_eval rfl).trans k5_18) ?_
 refine wp_skip ?_
 refine hK3 _ _ ?_
 refine wp_seq_k fun K6 hK6 => ?_
 refine fl_region_seq ?_
 show wpOps _ _ _ (List.range' 0 6) _ _
 refine tail_value (o := _) rfl rfl rfl (v := .agg #[.int .i64 ((nm : Int)), .slice (some ⟨bc, oc, none⟩) (2) (cc), .slice (sa) (ns) (sc), .slice (some ⟨bj, oj, none⟩) (4) (cj)]) (by simp [go_sem, frv 24 k5_8, cl b5_1 0, cl b5_1 1, cl b5_1 2, cl b5_1 3]) ?_
 generalize hg6 : upd g5 20 (.agg #[.int .i64 ((nm : Int)), .slice (some ⟨bc, oc, none⟩) (2) (cc), .slice (sa) (ns) (sc), .slice (some ⟨bj, oj, none⟩) (4) (cj)]) = g6
 have k6_2 := ku hg6 2 k5_2
 have k6_6 := ku hg6 6 k5_6
 have k6_7 := ku hg6 7 k5_7
 have k6_20 := kt hg6 20 (upd_same _ _ _)
 refine tail_value (o := _) rfl rfl rfl (v := .slice (ao) (no) (co)) (by simp [go_sem, frv 24 k6_2]) ?_
 generalize hg7 : upd g6 21 (.slice (ao) (no) (co)) = g7
 have k7_6 := ku hg7 6 k6_6
 have k7_7 := ku hg7 7 k6_7
 have k7_20 := ku hg7 20 k6_20
 have k7_21 := kt hg7 21 (upd_same _ _ _)
 refine tail_call (o := _) (d := 22) rfl rfl rfl (by simp [go_sem, frv 24 k7_20, frv 24 k7_21]) (run_4 nm ns CH x js bc oc cc bs os_ sc bj oj cj sa adc kpc adj kpj od ao no co xs W5 (hF) (hM.below fB5) (hX.below fB5 (Nat.le_refl _)) hno hod) ?_ (fun _ h => by obtain ⟨_, _, _, h, _⟩ := h; cases h) (fun _ _ h => by obtain ⟨_, _, _, h, _⟩ := h; cases h)
 have lx8_0 := lt_of_blk b5_0
 have lx8_1 := lt_of_blk b5_1
 rintro v_ W8 ⟨bS8, bE8, V8, rv8, h1_8, h2_8, lS8, lE8, hb8⟩
 obtain rfl := Ending.returned.inj rv8
 have fB8 := below_trans fB5 hb8
 have b8_0 := blk_below b5_0 hb8
 have b8_1 := blk_below b5_1 hb8
 have i1_8 := h1_8.all hsur
 generalize hg8 : upd g7 22 (.agg #[.slice (some ⟨bS8, 0, none⟩) (4) (4), .slice (some ⟨bE8, 0, none⟩) (4) (4)]) = g8
 have k8_6 := ku hg8 6 k7_6
 have k8_7 := ku hg8 7 k7_7
 have k8_22 := kt hg8 22 (upd_same _ _ _)
 have fx9 : ∀ W : World, (Instr.field 98 (.agg #[.slice (some ⟨bS8, 0, none⟩) (4) (4), .slice (some ⟨bE8, 0, none⟩) (4) (4)]) 0).run Try.prog W = .ok (.slice (some ⟨bS8, 0, none⟩) (4) (4)) W := fun W => (by kernel_rfl)
 refine tail_value (o := _) rfl rfl rfl (v := .slice (some ⟨bS8, 0, none⟩) (4) (4)) (by simp [go_sem, frv 24 k8_22, fx9]) ?_
 generalize hg9 : upd g8 23 (.slice (some ⟨bS8, 0, none⟩) (4) (4)) = g9
 have k9_6 := ku hg9 6 k8_6
 have k9_7 := ku hg9 7 k8_7
 have k9_23 := kt hg9 23 (upd_same _ _ _)
 refine tail_value (o := _) rfl rfl rfl (v := .slice (some ⟨bS8, 0, none⟩) (4) (4)) (by simp [go_sem, frv 24 k9_23]) ?_
 generalize hg10 : upd g9 6 (.slice (some ⟨bS8, 0, none⟩) (4) (4)) = g10
 have k10_7 := ku hg10 7 k9_7
 have k10_6 := kt hg10 6 (upd_same _ _ _)
 refine tail_value (o := _) rfl rfl rfl (v := .int .i64 0) (by simp [go_sem]) ?_
 generalize hg11 : upd g10 7 (.int .i64 0) = g11
 have k11_6 := ku hg11 6 k10_6
 have k11_7 := kt hg11 7 (upd_same _ _ _)
 refine wpOps_end ?_
 refine hK6 _ _ ?_
 refine wp_ret ?_
 refine leave_gen (v := .tuple #[.slice (some ⟨bS8, 0, none⟩) (4) (4), .int .i64 0]) (.inr rfl) (by simp [results, Try.results7, go_sem, frv 24 k11_6, frv 24 k11_7]) ?_
 exact ⟨_, rfl, i1_8, fB8⟩
end Go.Proofs.Ytcgccflcjejlhaa
namespace Go.Proofs.Ytcgccflcjejlhaa
open Go.RowKit
/-- The first k set-ups of a plan, whose lists are one's own. -/
def SuC (B : Nat) (W : World) (xs : Nat → List Int × Int) (k : Nat) (cs : List Value) : Prop := cs.length = k * 2 ∧ ∀ j, j < k → ∃ g c, cs[j * 2]? = some (.slice (some ⟨g, 0, none⟩) (xs j).1.length c) ∧ cs[j * 2 + 1]? = some (.int .i64 (xs j).2) ∧ OwnI B (xs j).1 g c W
theorem SuC.below {B k : Nat} {xs : Nat → List Int × Int} {cs : List Value} {W W' : World} (h : SuC B W xs k cs) (hb : Below W.heap.size W W') : SuC B W' xs k cs :=
  ⟨h.1, fun j hj => by obtain ⟨g, c, e1, e2, e3⟩ := h.2 j hj; exact ⟨g, c, e1, e2, e3.below hb⟩⟩
theorem OwnI.otherN {B B' n c g c' : Nat} {xs : List Int} {cs : List Value} {a : Option Addr} {T : TypeId} {z : Nat} {W W' : World} (h : OwnI B xs g c W) (h' : OwnN T z B' n cs a c' W) (hot : ∀ k y, (∀ g, a = some ⟨g, 0, none⟩ → g ≠ k) → W.heap[k]? = some y → W'.heap[k]? = some y) (hz : W.heap.size ≤ W'.heap.size) (hT : (3 != T) = true := by decide) : OwnI B xs g c W' := by
  have := OwnN.otherN (.inr ⟨g, rfl, h⟩) h' hot hz hT
  rcases this with ⟨e, -⟩ | ⟨g', e, h2⟩
  · cases e
  · cases e; exact h2
theorem SuC.snoc {B k n c' g c : Nat} {xs : Nat → List Int × Int} {cs cs0 : List Value} {a : Option Addr} {T : TypeId} {z B' : Nat} {W W' : World} (h : SuC B W xs k cs) (h' : OwnN T z B' n cs0 a c' W) (hot : ∀ k y, (∀ g, a = some ⟨g, 0, none⟩ → g ≠ k) → W.heap[k]? = some y → W'.heap[k]? = some y) (hz : W.heap.size ≤ W'.heap.size)
    (hg : OwnI B (xs k).1 g c W) (hT : (3 != T) = true := by decide) : SuC B W' xs (k + 1) (cs ++ [.slice (some ⟨g, 0, none⟩) (xs k).1.length c, .int .i64 (xs k).2]) := by
  refine ⟨by simp [h.1]; omega, fun j hj => ?_⟩
  have hl := h.1
  rcases Nat.lt_or_ge j k with hj' | hj'
  · obtain ⟨g, c, e1, e2, e3⟩ := h.2 j hj'
    exact ⟨g, c, by rw [List.getElem?_append_left (by omega)]; exact e1, by rw [List.getElem?_append_left (by omega)]; exact e2, e3.otherN h' hot hz hT⟩
  · obtain rfl : j = k := by omega
    exact ⟨g, c, by rw [List.getElem?_append_right (by omega), hl, Nat.sub_self]; rfl, by rw [List.getElem?_append_right (by omega), hl, Nat.add_sub_cancel_left]; rfl, hg.otherN h' hot hz hT⟩
theorem SuC.other {B k b : Nat} {xs : Nat → List Int × Int} {cs : List Value} {cs0 : Array Value} {T' : TypeId} {W W' : World} (h : SuC B W xs k cs) (hot : ∀ k x, k ≠ b → W.heap[k]? = some x → W'.heap[k]? = some x) (hb : W.heap[b]? = some (.cells cs0 T' (0, 0))) (hz : W.heap.size ≤ W'.heap.size) (hT : (T' != 3) = true := by decide) : SuC B W' xs k cs :=
  ⟨h.1, fun j hj => by
    obtain ⟨g, c, e1, e2, e3⟩ := h.2 j hj
    exact ⟨g, c, e1, e2, e3.other hot (ownN_ne (.inr ⟨g, rfl, e3⟩) hb hT g rfl) hz⟩⟩
/-- A plan: n set-ups, each with its webs and its run. -/
def SuR (W : World) (b o n : Nat) (xs : Nat → List Int × Int) (ad : Nat → Option Addr) (cp : Nat → Nat) : Prop := (0 < n → b < W.heap.size) ∧ ∀ j, j < n → W.cell? ⟨b, o + j * 2, none⟩ = some (.slice (ad j) (xs j).1.length (cp j)) ∧ W.cell? ⟨b, o + j * 2 + 1, none⟩ = some (.int .i64 (xs j).2) ∧ Ii W (ad j) (xs j).1.length (cp j) (xs j).1
theorem SuR.below {W W' : World} {b o n : Nat} {xs : Nat → List Int × Int} {ad : Nat → Option Addr} {cp : Nat → Nat} (h : SuR W b o n xs ad cp) (hb : Below W.heap.size W W') : SuR W' b o n xs ad cp :=
  ⟨fun h0 => Nat.lt_of_lt_of_le (h.1 h0) hb.size, fun j hj => ⟨(hb.cell (p := ⟨b, o + j * 2, none⟩) (h.1 (by omega))).trans (h.2 j hj).1, (hb.cell (p := ⟨b, o + j * 2 + 1, none⟩) (h.1 (by omega))).trans (h.2 j hj).2.1, (h.2 j hj).2.2.below hb (Nat.le_refl _)⟩⟩
def IsPlan (n : Nat) (xs : Nat → List Int × Int) (v : Value) (W : World) : Prop := ∃ a c b o ad cp, v = .slice a n c ∧ n ≤ c ∧ (0 < n → a = some ⟨b, o, none⟩) ∧ SuR W b o n xs ad cp
theorem IsPlan.below {n : Nat} {xs : Nat → List Int × Int} {v : Value} {W W' : World} (h : IsPlan n xs v W) (hb : Below W.heap.size W W') : IsPlan n xs v W' := by
  obtain ⟨a, c, b, o, ad, cp, e, h1, h2, h3⟩ := h; exact ⟨a, c, b, o, ad, cp, e, h1, h2, h3.below hb⟩
def AgS (B : Nat) (x : List Int × Int) (v : Value) (W : World) : Prop := ∃ g c, v = .agg #[.slice (some ⟨g, 0, none⟩) x.1.length c, .int .i64 x.2] ∧ OwnI B x.1 g c W
theorem AgS.below {B : Nat} {x : List Int × Int} {v : Value} {W W' : World} (h : AgS B x v W) (hb : Below W.heap.size W W') : AgS B x v W' := by
  obtain ⟨g, c, e, h⟩ := h; exact ⟨g, c, e, h.below hb⟩
def RwS (B : Nat) (x : List Int × Int) (v : Value) (W : World) : Prop := ∃ b g c, v = .slice (some ⟨b, 0, none⟩) 1 1 ∧ W.heap[b]? = some (.cells #[.slice (some ⟨g, 0, none⟩) x.1.length c, .int .i64 x.2] 74 (0, 0)) ∧ OwnI B x.1 g c W
theorem RwS.below {B : Nat} {x : List Int × Int} {v : Value} {W W' : World} (h : RwS B x v W) (hb : Below W.heap.size W W') : RwS B x v W' := by
  obtain ⟨b, g, c, e, h1, h2⟩ := h; exact ⟨b, g, c, e, blk_below h1 hb, h2.below hb⟩
end Go.Proofs.Ytcgccflcjejlhaa
namespace Go.Proofs.Ytcgccflcjejlhaa
open Go.RowKit
def JbC (B : Nat) (W : World) (js : Nat → Fj) (k : Nat) (cs : List Value) : Prop := cs.length = k * 4 ∧ ∀ j, j < k → ∃ g c, cs[j * 4]? = some (.int .i64 ((js j).kd : Int)) ∧ cs[j * 4 + 1]? = some (.int .i64 (js j).rd) ∧ cs[j * 4 + 2]? = some (.int .i64 (js j).du) ∧ cs[j * 4 + 3]? = some (.slice (some ⟨g, 0, none⟩) (js j).ms.length c) ∧ OwnI B (js j).ms g c W
theorem jbC_nil {B : Nat} {W : World} {js : Nat → Fj} : JbC B W js 0 [] := ⟨rfl, fun j h => absurd h (Nat.not_lt_zero _)⟩
theorem JbC.below {B k : Nat} {js : Nat → Fj} {cs : List Value} {W W' : World} (h : JbC B W js k cs) (hb : Below W.heap.size W W') : JbC B W' js k cs :=
  ⟨h.1, fun j hj => by obtain ⟨g, c, e1, e2, e3, e4, e5⟩ := h.2 j hj; exact ⟨g, c, e1, e2, e3, e4, e5.below hb⟩⟩
theorem JbC.snoc {B k n c' g c : Nat} {js : Nat → Fj} {cs cs0 : List Value} {a : Option Addr} {T : TypeId} {z B' : Nat} {W W' : World} (h : JbC B W js k cs) (h' : OwnN T z B' n cs0 a c' W) (hot : ∀ k y, (∀ g, a = some ⟨g, 0, none⟩ → g ≠ k) → W.heap[k]? = some y → W'.heap[k]? = some y) (hz : W.heap.size ≤ W'.heap.size)
    (hg : OwnI B (js k).ms g c W) (hT : (3 != T) = true := by decide) : JbC B W' js (k + 1) (cs ++ [.int .i64 ((js k).kd : Int), .int .i64 (js k).rd, .int .i64 (js k).du, .slice (some ⟨g, 0, none⟩) (js k).ms.length c]) := by
  refine ⟨by simp [h.1]; omega, fun j hj => ?_⟩
  have hl := h.1
  rcases Nat.lt_or_ge j k with hj' | hj'
  · obtain ⟨g, c, e1, e2, e3, e4, e5⟩ := h.2 j hj'
    exact ⟨g, c, by rw [List.getElem?_append_left (by omega)]; exact e1, by rw [List.getElem?_append_left (by omega)]; exact e2, by rw [List.getElem?_append_left (by omega)]; exact e3, by rw [List.getElem?_append_left (by omega)]; exact e4, e5.otherN h' hot hz hT⟩
  · obtain rfl : j = k := by omega
    exact ⟨g, c, by rw [List.getElem?_append_right (by omega), hl, Nat.sub_self]; rfl, by rw [List.getElem?_append_right (by omega), hl, Nat.add_sub_cancel_left]; rfl, by rw [List.getElem?_append_right (by omega), hl, Nat.add_sub_cancel_left]; rfl, by rw [List.getElem?_append_right (by omega), hl, Nat.add_sub_cancel_left]; rfl, hg.otherN h' hot hz hT⟩
theorem JbC.other {B k b : Nat} {js : Nat → Fj} {cs : List Value} {cs0 : Array Value} {T' : TypeId} {W W' : World} (h : JbC B W js k cs) (hot : ∀ k x, k ≠ b → W.heap[k]? = some x → W'.heap[k]? = some x) (hb : W.heap[b]? = some (.cells cs0 T' (0, 0))) (hz : W.heap.size ≤ W'.heap.size) (hT : (T' != 3) = true := by decide) : JbC B W' js k cs :=
  ⟨h.1, fun j hj => by
    obtain ⟨g, c, e1, e2, e3, e4, e5⟩ := h.2 j hj
    exact ⟨g, c, e1, e2, e3, e4, e5.other hot (ownN_ne (.inr ⟨g, rfl, e5⟩) hb hT g rfl) hz⟩⟩
/-- Where the jobs lie. -/
theorem JbC.row {B n c : Nat} {js : Nat → Fj} {cs : List Value} {a : Option Addr} {W : World} (h0 : 0 < n) (h : JbC B W js n cs) (hr : OwnN 32 4 B n cs a c W) : ∃ b ad cp, a = some ⟨b, 0, none⟩ ∧ JbR W b 0 n js ad cp := by
  have hx : ∀ j : Nat, ∃ q : Nat × Nat, j < n → cs[j * 4]? = some (.int .i64 ((js j).kd : Int)) ∧ cs[j * 4 + 1]? = some (.int .i64 (js j).rd) ∧ cs[j * 4 + 2]? = some (.int .i64 (js j).du) ∧ cs[j * 4 + 3]? = some (.slice (some ⟨q.1, 0, none⟩) (js j).ms.length q.2) ∧ OwnI B (js j).ms q.1 q.2 W := fun j => by
    by_cases hj : j < n
    · obtain ⟨g, c, e⟩ := h.2 j hj; exact ⟨(g, c), fun _ => e⟩
    · exact ⟨(0, 0), fun h => absurd h hj⟩
  obtain ⟨q, hq⟩ : ∃ q : Nat → Nat × Nat, ∀ j, j < n → cs[j * 4]? = some (.int .i64 ((js j).kd : Int)) ∧ cs[j * 4 + 1]? = some (.int .i64 (js j).rd) ∧ cs[j * 4 + 2]? = some (.int .i64 (js j).du) ∧ cs[j * 4 + 3]? = some (.slice (some ⟨(q j).1, 0, none⟩) (js j).ms.length (q j).2) ∧ OwnI B (js j).ms (q j).1 (q j).2 W := ⟨fun j => Classical.choose (hx j), fun j => Classical.choose_spec (hx j)⟩
  rcases hr with ⟨rfl, rfl, rfl, rfl⟩ | ⟨g, rfl, hr⟩
  · omega
  · refine ⟨g, fun j => some ⟨(q j).1, 0, none⟩, fun j => (q j).2, rfl, hr.2.1, fun j hj => ?_⟩
    obtain ⟨e1, e2, e3, e4, e5⟩ := hq j hj
    rw [Nat.zero_add]
    exact ⟨hr.cell _ e1, hr.cell _ e2, hr.cell _ e3, hr.cell _ e4, e5.ii⟩
/-- Jobs. -/
def IsJobs (n : Nat) (js : Nat → Fj) (v : Value) (W : World) : Prop := ∃ b c ad cp, v = .slice (some ⟨b, 0, none⟩) n c ∧ JbR W b 0 n js ad cp
theorem IsJobs.below {n : Nat} {js : Nat → Fj} {v : Value} {W W' : World} (h : IsJobs n js v W) (hb : Below W.heap.size W W') : IsJobs n js v W' := by
  obtain ⟨b, c, ad, cp, e, h⟩ := h; exact ⟨b, c, ad, cp, e, h.below hb⟩
end Go.Proofs.Ytcgccflcjejlhaa
namespace Go.Proofs.Ytcgccflcjejlhaa
open Go.RowKit
theorem foldl_two (X : Array Value) (p q : Tmp) (a b : Value) : ((#[p, q] : Array Tmp).zip #[a, b]).foldl (fun t (p, v) => t.setIfInBounds p v) X = (X.setIfInBounds p a).setIfInBounds q b := by
  simp [Array.zip, ← Array.foldl_toList]
end Go.Proofs.Ytcgccflcjejlhaa
namespace Go.Proofs.Ytcgccflcjejlhaa
open Go.RowKit
/-- The iterator over the moistures. -/
def AftV (B : Nat) (up dn lo hi : Int) (bo oo n c : Nat) (v : Value) (W : World) : Prop := ∃ b1 b2 b3, v = .func (.func 55) #[] #[.pointer (some ⟨b1, 0, none⟩), .pointer (some ⟨b2, 0, none⟩), .pointer (some ⟨b3, 0, none⟩)] ∧ W.heap[b1]? = some (.cells #[.slice (some ⟨bo, oo, none⟩) n c] 52 (0, 0)) ∧ W.heap[b2]? = some (.cells #[.int .i64 lo, .int .i64 hi] 103 (0, 0)) ∧ W.heap[b3]? = some (.cells #[.int .i64 up, .int .i64 dn] 41 (0, 0)) ∧ B ≤ b1 ∧ B ≤ b2 ∧ B ≤ b3 ∧ b3 ≠ b2
theorem AftV.below {B : Nat} {up dn lo hi : Int} {bo oo n c : Nat} {v : Value} {W W' : World} (h : AftV B up dn lo hi bo oo n c v W) (hb : Below W.heap.size W W') : AftV B up dn lo hi bo oo n c v W' := by
  obtain ⟨b1, b2, b3, e, h1, h2, h3, h4⟩ := h; exact ⟨b1, b2, b3, e, blk_below h1 hb, blk_below h2 hb, blk_below h3 hb, h4⟩
/-- The moistures after the first stays, one behind another. -/
def spC (ss : Nat → Int × Int) (i : Nat) : List Value := [.int .i64 (ss i).1, .int .i64 (ss i).2]
def IsSp (B n : Nat) (ss : Nat → Int × Int) (v : Value) (W : World) : Prop := ∃ b c, v = .slice (some ⟨b, 0, none⟩) n c ∧ SpR W b 0 n ss ∧ B ≤ b
theorem IsSp.below {B n : Nat} {ss : Nat → Int × Int} {v : Value} {W W' : World} (h : IsSp B n ss v W) (hb : Below W.heap.size W W') : IsSp B n ss v W' := by
  obtain ⟨b, c, e, h, h2⟩ := h; exact ⟨b, c, e, h.below hb, h2⟩
theorem infoSp : (Try.prog.info? 43).map (fun i => (i.zero, i.size, i.bytes)) = some (some (.agg #[.int .i64 0, .int .i64 0]), 2, 16) := by kernel_rfl
theorem colV_sp {w : World} {V b2 n : Nat} {ss : Nat → Int × Int} {G : Nat → Prop} {W : World} (hx : 0 < n) (h : ColV w V b2 45 43 2 (spC ss) n G W) {a : Option Addr} {c : Nat} (h3 : W.heap[b2]? = some (.cells #[.slice a n c] 45 (0, 0))) : IsSp w.heap.size n ss (.slice a n c) W := by
  obtain ⟨h1, h2, a', c', h3', h4, h5, h6⟩ := h
  rw [h3] at h3'
  simp only [Option.some.injEq, Obj.cells.injEq, Array.mk.injEq, List.cons.injEq, Value.slice.injEq, and_true, true_and] at h3'
  obtain ⟨rfl, rfl⟩ := h3'
  rcases h4 with ⟨_, h, _⟩ | ⟨g, rfl, h⟩
  · omega
  · refine ⟨g, c, rfl, ⟨h.2.1, fun i hi => ⟨?_, ?_⟩⟩, h.1⟩
    · have e := h.cell (i * 2 + 0) (rowC_at (f := spC ss) (z := 2) (fun _ => rfl) (j := 0) (by decide) n i hi)
      rw [Nat.zero_add]; exact e
    · have e := h.cell (i * 2 + 1) (rowC_at (f := spC ss) (z := 2) (fun _ => rfl) (j := 1) (by decide) n i hi)
      rw [Nat.zero_add]; exact e
set_option maxRecDepth 100000 in
set_option maxHeartbeats 400000 in
theorem after_fn (up dn lo hi : Int) (bo oo n c : Nat) (w : World) :
  Calls Try.prog 27 #[.agg #[.int .i64 lo, .int .i64 hi], .agg #[.int .i64 up, .int .i64 dn], .slice (some ⟨bo, oo, none⟩) (n) (c)] w (fun e w' => ∃ v, e = .returned v ∧ AftV w.heap.size up dn lo hi bo oo n c v w' ∧ Below w.heap.size w w') := by
 refine calls_fr Try.func27 Try.ntmps27 rfl rfl fun g hg => ?_
 have k0 : g 0 = .agg #[.int .i64 lo, .int .i64 hi] := hg 0
 have k1 : g 1 = .agg #[.int .i64 up, .int .i64 dn] := hg 1
 have k2 : g 2 = .slice (some ⟨bo, oo, none⟩) (n) (c) := hg 2
 clear hg
 have fB0 : Below w.heap.size w w := Below.refl _ _
 refine wp_seq_k fun K1 hK1 => ?_
 refine region_dk 4 [(3, 0), (4, 1), (5, 2), (6, 3)] [[], [], [], []] (rel [bx 0 #[.int .i64 lo, .int .i64 hi] 103,
   bx 1 #[.int .i64 up, .int .i64 dn] 41,
   bx 2 #[.slice (some ⟨bo, oo, none⟩) (n) (c)] 52,
   is (.nilFunc)])
  ⟨bx_k, bx_k, bx_k, is_k, trivial⟩
  ⟨fun f s W d h i j k a => opb rfl rfl (by simp [go_sem, a.e 0 k0]),
  fun f s W d h i j k a => opb rfl rfl (by simp [go_sem, a.e 1 k1]),
  fun f s W d h i j k a => opb rfl rfl (by simp [go_sem, a.e 2 k2]),
  fun f s W d h i j k a => opv rfl rfl (by simp [go_sem]) rfl, trivial⟩ ?_
 intro f1 s1 W1 hB1 g1 hg1
 have fB1 := hB1.f fB0
 have z1 := hB1.below.size
 obtain ⟨r1_0, br1_0⟩ := hB1.is 0
 have lr1_0 := hB1.lr 0 br1_0
 obtain ⟨r1_1, br1_1⟩ := hB1.is 1
 have lr1_1 := hB1.lr 1 br1_1
 obtain ⟨r1_2, br1_2⟩ := hB1.is 2
 have lr1_2 := hB1.lr 2 br1_2
 have ne1_0_1 := hB1.nb 0 1
 have ne1_0_2 := hB1.nb 0 2
 have ne1_1_2 := hB1.nb 1 2
 refine hK1 _ _ ?_
 have k1_3 := kt hg1 3 r1_0
 have k1_4 := kt hg1 4 r1_1
 have k1_5 := kt hg1 5 r1_2
 have k1_6 := kt hg1 6 (hB1.is 3)
 refine wp_seq_k fun K2 hK2 => ?_
 refine region_dk 2 [(7, 0), (6, 1)] [[], [0]] (rel [is (.func (.func 55) #[] #[.pointer (some ⟨(s1 2), 0, none⟩), .pointer (some ⟨(s1 0), 0, none⟩), .pointer (some ⟨(s1 1), 0, none⟩)]),
   is (.func (.func 55) #[] #[.pointer (some ⟨(s1 2), 0, none⟩), .pointer (some ⟨(s1 0), 0, none⟩), .pointer (some ⟨(s1 1), 0, none⟩)])])
  ⟨is_k, is_k, trivial⟩
  ⟨fun f s W d h i j k a => opv rfl rfl (by simp [go_sem, a.e 5 k1_5, a.e 3 k1_3, a.e 4 k1_4]) rfl,
  fun f s W d h i j k a => opv rfl rfl (by simp [go_sem, a.e 7 (h 0 rfl)]) rfl, trivial⟩ ?_
 intro f2 s2 W2 hB2 g2 hg2
 have fB2 := hB2.f fB1
 have z2 := hB2.below.size
 have b2_0 := hB2.b br1_0
 have b2_1 := hB2.b br1_1
 have b2_2 := hB2.b br1_2
 refine hK2 _ _ ?_
 have k2_6 := kt hg2 6 (hB2.is 1)
 refine wp_ret ?_
 refine leave_one (N := 8) (v := .func (.func 55) #[] #[.pointer (some ⟨(s1 2), 0, none⟩), .pointer (some ⟨(s1 0), 0, none⟩), .pointer (some ⟨(s1 1), 0, none⟩)]) (.inr rfl) Try.results27 rfl k2_6 ?_
 exact ⟨_, rfl, ⟨_, _, _, rfl, b2_2, b2_0, b2_1, by omega, by omega, by omega, by omega⟩, fB2⟩
set_option maxRecDepth 100000 in
set_option maxHeartbeats 16000000 in
theorem damp_After (up dn lo hi : Int) (ds : Nat → Ds) (bo oo n c : Nat) (w : World) (hO : DsR w bo oo n ds) (ho : ∀ i, i < n → DsIn (ds i)) (gn : n ≤ 10) (gn0 : 0 < n) (gu : 0 ≤ up ∧ up ≤ 50) (gd : 0 ≤ dn ∧ dn ≤ 50) (hm : MoIn lo hi) :
  Calls Try.prog 8 #[.agg #[.int .i64 up, .int .i64 dn], .agg #[.int .i64 lo, .int .i64 hi], .slice (some ⟨bo, oo, none⟩) (n) (c)] w (fun e w' => ∃ v, e = .returned (.tuple #[v, .int .i64 0]) ∧ IsSp w.heap.size n (fun i => moF up dn lo hi ds (i + 1)) v w' ∧ Below w.heap.size w w') := by
 refine calls_frM (n := 9) Try.func8 Try.ntmps8 rfl rfl fun g hg => ?_
 have k0 : g 0 = .agg #[.int .i64 up, .int .i64 dn] := hg 0
 have k1 : g 1 = .agg #[.int .i64 lo, .int .i64 hi] := hg 1
 have k2 : g 2 = .slice (some ⟨bo, oo, none⟩) (n) (c) := hg 2
 clear hg
 have fB0 : Below w.heap.size w w := Below.refl _ _
 refine wp_seq_k fun K1 hK1 => ?_
 refine region_dk 4 [(3, 0), (4, 1), (6, 2), (7, 3)] [[], [], [], []] (rel [bx 0 #[.int .i64 up, .int .i64 dn] 41,
   bx 1 #[.int .i64 lo, .int .i64 hi] 43,
   bx 2 #[.slice (none) (0) (0)] 45,
   is (.int .i64 0)])
  ⟨bx_k, bx_k, bx_k, is_k, trivial⟩
  ⟨fun f s W m q u y z d => opb rfl rfl (by simp [go_sem, d.e 0 k0]),
  fun f s W m q u y z d => opb rfl rfl (by simp [go_sem, d.e 1 k1]),
  fun f s W m q u y z d => opb rfl rfl (by simp [go_sem]),
  fun f s W m q u y z d => opv rfl rfl (by simp [go_sem]) rfl, trivial⟩ ?_
 intro f1 s1 W1 hB1 g1 hg1
 have fB1 := hB1.f fB0
 have z1 := hB1.below.size
 obtain ⟨r1_0, br1_0⟩ := hB1.is 0
 have lr1_0 := hB1.lr 0 br1_0
 obtain ⟨r1_1, br1_1⟩ := hB1.is 1
 have lr1_1 := hB1.lr 1 br1_1
 obtain ⟨r1_2, br1_2⟩ := hB1.is 2
 have lr1_2 := hB1.lr 2 br1_2
 have ne1_0_1 := hB1.nb 0 1
 have ne1_0_2 := hB1.nb 0 2
 have ne1_1_2 := hB1.nb 1 2
 refine hK1 _ _ ?_
 have k1_2 := kt hg1 2 k2
 have k1_3 := kt hg1 3 r1_0
 have k1_4 := kt hg1 4 r1_1
 have k1_6 := kt hg1 6 r1_2
 have k1_7 := kt hg1 7 (hB1.is 3)
 refine wp_seq_k fun K2 hK2 => ?_
 refine wp_seq_k fun K3 hK3 => ?_
 refine region_dk 5 [(11, 0), (12, 1), (13, 2), (14, 3), (8, 4)] [[], [], [], [0, 1, 2], [0, 1, 2, 3]] (rel [is (.agg #[.int .i64 up, .int .i64 dn]),
   is (.agg #[.int .i64 lo, .int .i64 hi]),
   is (.slice (some ⟨bo, oo, none⟩) (n) (c)),
   is (.int .i64 0),
   is (.int .i64 0)])
  ⟨is_k, is_k, is_k, is_k, is_k, trivial⟩
  ⟨fun f s W m q u y z d => opv rfl rfl (by simp [go_sem, d.e 3 k1_3, cb br1_0 m 0, cb br1_0 m 1]) rfl,
  fun f s W m q u y z d => opv rfl rfl (by simp [go_sem, d.e 4 k1_4, cb br1_1 m 0, cb br1_1 m 1]) rfl,
  fun f s W m q u y z d => opv rfl rfl (by simp [go_sem, d.e 2 k1_2]) rfl,
  fun f s W m q u y z d => by have B := below_trans fB1 m; exact opc rfl rfl (by simp [go_sem, d.e 11 (q 0 rfl), d.e 12 (q 1 rfl), d.e 13 (q 2 rfl)]) (dcheck_yes up dn lo hi ds bo oo n c W (hO.below B) ho gn gu gd hm),
  fun f s W m q u y z d => opv rfl rfl (by simp [go_sem, d.e 14 (q 3 rfl)]) rfl, trivial⟩ ?_
 intro f2 s2 W2 hB2 g2 hg2
 have fB2 := hB2.f fB1
 have z2 := hB2.below.size
 have b2_0 := hB2.b br1_0
 have b2_1 := hB2.b br1_1
 have b2_2 := hB2.b br1_2
 refine hK3 _ _ ?_
 have k2_2 := kt hg2 2 k1_2
 have k2_3 := kt hg2 3 k1_3
 have k2_4 := kt hg2 4 k1_4
 have k2_6 := kt hg2 6 k1_6
 have k2_7 := kt hg2 7 k1_7
 have k2_8 := kt hg2 8 (hB2.is 4)
 refine wp_seq_k fun K4 hK4 => ?_
 refine region_dk 2 [(15, 0), (16, 1)] [[], [0]] (rel [is (.int .i64 0),
   is (.bool false)])
  ⟨is_k, is_k, trivial⟩
  ⟨fun f s W m q u y z d => opv rfl rfl (by simp [go_sem, d.e 8 k2_8]) rfl,
  fun f s W m q u y z d => opv rfl rfl (by simp [go_sem, d.e 15 (q 0 rfl)]) rfl, trivial⟩ ?_
 intro f3 s3 W3 hB3 g3 hg3
 have fB3 := hB3.f fB2
 have z3 := hB3.below.size
 have b3_0 := hB3.b b2_0
 have b3_1 := hB3.b b2_1
 have b3_2 := hB3.b b2_2
 refine hK4 _ _ ?_
 have k3_2 := kt hg3 2 k2_2
 have k3_3 := kt hg3 3 k2_3
 have k3_4 := kt hg3 4 k2_4
 have k3_6 := kt hg3 6 k2_6
 have k3_7 := kt hg3 7 k2_7
 have k3_8 := kt hg3 8 k2_8
 have k3_16 := kt hg3 16 (hB3.is 1)
 refine wp_cond_false ((fr_eval rfl).trans k3_16) ?_
 refine wp_skip ?_
 refine hK2 _ _ ?_
 refine wp_seq_k fun K6 hK6 => ?_
 refine wp_seq_k fun K7 hK7 => ?_
 refine region_dk 5 [(18, 0), (19, 1), (20, 2), (21, 3), (22, 4)] [[], [0], [], [], [0, 1, 2, 3]] (rel [is (.agg #[.int .i64 lo, .int .i64 hi]),
   is (.agg #[.int .i64 lo, .int .i64 hi]),
   is (.agg #[.int .i64 up, .int .i64 dn]),
   is (.slice (some ⟨bo, oo, none⟩) (n) (c)),
   ab fun v W => AftV w.heap.size up dn lo hi bo oo n c v W])
  ⟨is_k, is_k, is_k, is_k, ab_k fun v W W' hb h => (AftV.below h hb), trivial⟩
  ⟨fun f s W m q u y z d => opv rfl rfl (by simp [go_sem, d.e 4 k3_4, cb b3_1 m 0, cb b3_1 m 1]) rfl,
  fun f s W m q u y z d => opv rfl rfl (by simp [go_sem, d.e 18 (q 0 rfl)]) rfl,
  fun f s W m q u y z d => opv rfl rfl (by simp [go_sem, d.e 3 k3_3, cb b3_0 m 0, cb b3_0 m 1]) rfl,
  fun f s W m q u y z d => opv rfl rfl (by simp [go_sem, d.e 2 k3_2]) rfl,
  fun f s W m q u y z d => opDo_call rfl rfl (by simp [go_sem, d.e 19 (q 1 rfl), d.e 20 (q 2 rfl), d.e 21 (q 3 rfl)]) (after_fn up dn lo hi bo oo n c W) ((fun e W' h => by obtain ⟨v, e1, ⟨b1_, b2_, b3_, e2, h1, h2, h3, l1, l2, l3, l4⟩, h9⟩ := h; have := m.size; exact ⟨_, e1, h9, ⟨b1_, b2_, b3_, e2, h1, h2, h3, by omega, by omega, by omega, l4⟩⟩)), trivial⟩ ?_
 intro f4 s4 W4 hB4 g4 hg4
 have fB4 := hB4.f fB3
 have z4 := hB4.below.size
 have b4_0 := hB4.b b3_0
 have b4_1 := hB4.b b3_1
 have b4_2 := hB4.b b3_2
 obtain ⟨b11', bk, b32', r4_4, q3', q4', q5', hl1_, hl2_, hl3_, hl4_⟩ := hB4.is 4
 refine hK7 _ _ ?_
 have k4_6 := kt hg4 6 k3_6
 have k4_7 := kt hg4 7 k3_7
 have k4_22 := kt hg4 22 r4_4
 refine wp_block ?_
 have hltk_ : bk < W4.heap.size := lt_of_blk q4'
 have hnek_ : bk ≠ (s1 2) := fun e => by have h_ := q4'; rw [e, b4_2] at h_; cases h_
 have hne3_ : b32' ≠ (s1 2) := fun e => by have h_ := q5'; rw [e, b4_2] at h_; cases h_
 have ltx0 := lt_of_blk b4_0
 have ltx1 := lt_of_blk b4_1
 obtain ⟨b2, hb2⟩ : ∃ b, (s1 2) = b := ⟨_, rfl⟩
 have hx2 : W4.heap[b2]? = some (.cells #[.slice none 0 0] 45 (0, 0)) := hb2 ▸ b4_2
 have k2' : g4 6 = .pointer (some ⟨b2, 0, none⟩) := hb2 ▸ k4_6
 have lt_b2 := lt_of_blk hx2; have hb2w : w.heap.size ≤ b2 := by rw [← hb2]; omega
 obtain ⟨V, hV⟩ : ∃ V, W4.heap.size = V := ⟨_, rfl⟩
 obtain ⟨AA, hA⟩ : ∃ A : Nat → (Nat → Prop) → Act → World → Prop, A = fun j G_ a' W_ => ∃ g' : Nat → Value, a' = fr 31 g' ∧ g' 6 = .pointer (some ⟨b2, 0, none⟩) ∧ ∃ b10, g' 10 = .pointer (some ⟨b10, 0, none⟩) ∧ W_.heap[b10]? = some (.cells #[.int .i64 (moF up dn lo hi ds (j + 1)).1, .int .i64 (moF up dn lo hi ds (j + 1)).2] 103 (0, 0)) := ⟨_, rfl⟩
 refine (wpIn_wide (n := 10)).1 (range_gx (n := 10) (gf := 55) (rcv := #[]) (lb := #[.pointer (some ⟨b11', 0, none⟩), .pointer (some ⟨bk, 0, none⟩), .pointer (some ⟨b32', 0, none⟩)]) ((fr_eval rfl).trans k4_22) (enters_of Try.func55 (by kernel_rfl) rfl) n (fun i _ v _ => v = #[.agg #[.int .i64 ((ds i).lo), .int .i64 ((ds i).hi), .int .i64 ((ds i).hr)], .agg #[.int .i64 ((moF up dn lo hi ds (i + 1)).1), .int .i64 ((moF up dn lo hi ds (i + 1)).2)]]) (fun i G v W h => by rw [h]; rfl) (ColV w V b2 45 43 2 (spC (fun i => moF up dn lo hi ds (i + 1)))) (fun b => b = bk) (fun b h => by subst h; exact hltk_) (hV ▸ colV_stab (by omega) (by omega) (fun b h => by subst h; exact ⟨hl2_, by omega, fun e => hnek_ (e.trans hb2.symm)⟩)) (fun b => b = b2) (fun b h => by omega) ?hit ?h0 AA ?hAp ?hassign ?hbody ?hdone)
 case hit =>
  intro l' W1 J' hl hl1 hb1 hJ's hJ'I hY' hJ0'
  have hz1 := hb1.size
  have hJG' : ∀ i G W, J' i G W → ∀ b, G b → w.heap.size ≤ b ∧ b < W.heap.size := fun i G W h => colV_ge hb2w (hJ'I i G W h)
  have fB1' := fB4.trans (hb1.mono fB4.size)
  refine after_it up dn lo hi ds bo oo n c hO ho gn gu gd hm b11' bk b32' l' (fun b => b = b2) J' W1 fB1' (blk_below q3' hb1) (blk_below q4' hb1) (blk_below q5' hb1) hl2_ hl4_ hJ's hJG' (fun b hb => ⟨fun e => hnek_ ((e.symm.trans hb).trans hb2.symm), fun e => hne3_ ((e.symm.trans hb).trans hb2.symm)⟩) (fun i G W hi hj u => hY' i G W _ hi hj u rfl) hJ0'
 case h0 => exact ⟨fB4, Nat.le_of_eq hV.symm, none, 0, hx2, ownN_nil, (fun g e => nomatch e), (fun b => by simp)⟩
 case hAp =>
  subst hA
  rintro j G_ a' X r o hl ⟨g', h1, h2, b10, h3, h4⟩
  exact ⟨g', h1, h2, b10, h3, (World.putObj_heap_other (fun e => by rw [e, hl] at h4; cases h4)).trans h4⟩
 case hassign =>
  rintro l' j G_ X v K hj hIX hsz rfl hK
  obtain ⟨Sv, hSv⟩ : ∃ v : Value, .agg #[.int .i64 (ds j).lo, .int .i64 (ds j).hi, .int .i64 (ds j).hr] = v := ⟨_, rfl⟩
  rw [hSv]
  obtain ⟨mx, hmx⟩ : ∃ x, (moF up dn lo hi ds (j + 1)).1 = x := ⟨_, rfl⟩
  obtain ⟨my, hmy⟩ : ∃ x, (moF up dn lo hi ds (j + 1)).2 = x := ⟨_, rfl⟩
  rw [hmx, hmy]
  obtain ⟨Mv, hMv⟩ : ∃ v : Value, .agg #[.int .i64 mx, .int .i64 my] = v := ⟨_, rfl⟩
  rw [hMv]
  have e : ({ tmps := ((#[23, 24] : Array Tmp).zip #[Sv, Mv]).foldl (fun t (p, v) => t.setIfInBounds p v) (fr 31 g4).tmps, defers := [] } : Act) = fr 31 (upd (upd g4 23 Sv) 24 Mv) := by
   rw [foldl_two, ← fr_set, ← fr_set]
  rw [e]
  have u24 : upd (upd (upd g4 23 Sv) 24 Mv) 10 (.pointer (some ⟨X.heap.size, 0, none⟩)) 24 = Mv := (upd_other _ _ (by decide)).trans (upd_same _ _ _)
  have u10 : upd (upd (upd g4 23 Sv) 24 Mv) 10 (.pointer (some ⟨X.heap.size, 0, none⟩)) 10 = .pointer (some ⟨X.heap.size, 0, none⟩) := upd_same _ _ _
  have u6 : upd (upd (upd g4 23 Sv) 24 Mv) 10 (.pointer (some ⟨X.heap.size, 0, none⟩)) 6 = .pointer (some ⟨b2, 0, none⟩) := (upd_other _ _ (by decide)).trans ((upd_other _ _ (by decide)).trans ((upd_other _ _ (by decide)).trans k2'))
  obtain ⟨X1, hX1⟩ : ∃ Y, X.alloc (.cells #[.int .i64 0, .int .i64 0] 103 (0, 0)) = Y := ⟨_, rfl⟩
  have hb1 : Below X.heap.size X X1 := hX1 ▸ (Below.refl _ X).alloc (Nat.le_refl _) _
  have hn1 : X1.heap[X.heap.size]? = some (.cells #[.int .i64 0, .int .i64 0] 103 (0, 0)) := hX1 ▸ World.alloc_heap_new X _
  refine wpIn_region ?_
  show wpOpsIn _ _ _ _ _ [0, 1] _ _
  refine inQ_valW (o := _) rfl rfl (fun _ h => nomatch h) rfl (v := .pointer (some ⟨X.heap.size, 0, none⟩)) (W' := X.alloc (.cells #[.int .i64 0, .int .i64 0] 103 (0, 0))) (by simp [go_sem]) ?_
  rw [hX1]
  obtain ⟨X2, hX2⟩ : ∃ Y, Y = X1.setRow X.heap.size #[.int .i64 mx, .int .i64 my] := ⟨_, rfl⟩
  refine inQ_skip (o := _) rfl rfl (fun _ h => nomatch h) rfl (run_seg (v := Mv) hX2 (fr_ev u10) (fr_ev u24) hn1 (by subst hMv; rfl) (by subst hMv; rfl) (by subst hMv; rfl) (by subst hMv; rfl)) ?_
  obtain ⟨fX2, nb2, ot2, z2_⟩ := seg_facts hX2 hb1 hn1 (Nat.le_refl _)
  refine hK _ _ fX2 ?_
  subst hA
  exact ⟨_, rfl, u6, X.heap.size, u10, by rw [hmx, hmy]; exact nb2⟩
 case hbody =>
  intro l' j G_ a' X hj hIX hAX
  subst hA
  obtain ⟨g', rfl, q2, hAX⟩ := hAX
  obtain ⟨b10, q10, hb10⟩ := hAX
  refine wpIn_block (wpIn_region ?_)
  show wpOpsIn (Fence.wide.inRound l') _ _ _ _ [0, 1, 2, 3, 4, 5] _ _
  obtain ⟨mx, hmx⟩ : ∃ x, (moF up dn lo hi ds (j + 1)).1 = x := ⟨_, rfl⟩
  obtain ⟨my, hmy⟩ : ∃ x, (moF up dn lo hi ds (j + 1)).2 = x := ⟨_, rfl⟩
  rw [hmx, hmy] at hb10
  obtain ⟨Mv, hMv⟩ : ∃ v : Value, .agg #[.int .i64 mx, .int .i64 my] = v := ⟨_, rfl⟩
  obtain ⟨X1, hX1⟩ : ∃ Y, X.alloc (.cells #[.int .i64 mx, .int .i64 my] 43 (0, 0)) = Y := ⟨_, rfl⟩
  have hb1 : Below X.heap.size X X1 := hX1 ▸ (Below.refl _ X).alloc (Nat.le_refl _) _
  have hn1 : X1.heap[X.heap.size]? = some (.cells #[.int .i64 mx, .int .i64 my] 43 (0, 0)) := hX1 ▸ World.alloc_heap_new X _
  obtain ⟨a, c, g2, c2, X2, hb2', ra, h3x, hcv, hkp, hgr⟩ := colV_step hIX (by kernel_rfl) infoSp rfl rfl rfl (by rfl) (by omega) ⟨hb2w, by omega⟩ hb1 (by rw [show (spC (fun i => moF up dn lo hi ds (i + 1))) j = [.int .i64 mx, .int .i64 my] by rw [spC, hmx, hmy]]; exact hn1)
  have hb2x : X.heap[b2]? = some (.cells #[.slice a j c] 45 (0, 0)) := by have := hb1.block b2 (by have := hIX.2.1; omega); rw [← this]; exact hb2'
  obtain ⟨y1, hy1⟩ : ∃ f, upd g' 25 (.slice a j c) = f := ⟨_, rfl⟩
  have y1_10 : y1 10 = .pointer (some ⟨b10, 0, none⟩) := hy1 ▸ (upd_other _ _ (by decide)).trans q10
  have y1_6 : y1 6 = .pointer (some ⟨b2, 0, none⟩) := hy1 ▸ (upd_other _ _ (by decide)).trans q2
  have y1_25 : y1 25 = .slice a j c := hy1 ▸ upd_same _ _ _
  refine inQ_value (o := _) rfl rfl (fun _ h => nomatch h) rfl (v := .slice a j c) (by simp [go_sem, frv 31 q2, cl hb2x 0]) ?_
  rw [hy1]
  obtain ⟨y2, hy2⟩ : ∃ f, upd y1 26 (.pointer (some ⟨b10, 0, none⟩)) = f := ⟨_, rfl⟩
  have y2_6 : y2 6 = .pointer (some ⟨b2, 0, none⟩) := hy2 ▸ (upd_other _ _ (by decide)).trans y1_6
  have y2_25 : y2 25 = .slice a j c := hy2 ▸ (upd_other _ _ (by decide)).trans y1_25
  have y2_26 : y2 26 = .pointer (some ⟨b10, 0, none⟩) := hy2 ▸ upd_same _ _ _
  refine inQ_value (o := _) rfl rfl (fun _ h => nomatch h) rfl (v := .pointer (some ⟨b10, 0, none⟩)) (by simp [go_sem, frv 31 y1_10]) ?_
  rw [hy2]
  obtain ⟨y3, hy3⟩ : ∃ f, upd y2 27 Mv = f := ⟨_, rfl⟩
  have y3_6 : y3 6 = .pointer (some ⟨b2, 0, none⟩) := hy3 ▸ (upd_other _ _ (by decide)).trans y2_6
  have y3_25 : y3 25 = .slice a j c := hy3 ▸ (upd_other _ _ (by decide)).trans y2_25
  have y3_27 : y3 27 = Mv := hy3 ▸ upd_same _ _ _
  refine inQ_value (o := _) rfl rfl (fun _ h => nomatch h) rfl (v := Mv) (by subst hMv; simp [go_sem, frv 31 y2_26, cl hb10 0, cl hb10 1]) ?_
  rw [hy3]
  obtain ⟨y4, hy4⟩ : ∃ f, upd y3 28 (.slice (some ⟨X.heap.size, 0, none⟩) 1 1) = f := ⟨_, rfl⟩
  have y4_6 : y4 6 = .pointer (some ⟨b2, 0, none⟩) := hy4 ▸ (upd_other _ _ (by decide)).trans y3_6
  have y4_25 : y4 25 = .slice a j c := hy4 ▸ (upd_other _ _ (by decide)).trans y3_25
  have y4_28 : y4 28 = .slice (some ⟨X.heap.size, 0, none⟩) 1 1 := hy4 ▸ upd_same _ _ _
  refine inQ_valW (o := _) rfl rfl (fun _ h => nomatch h) rfl (v := .slice (some ⟨X.heap.size, 0, none⟩) 1 1) (W' := X.alloc (.cells #[.int .i64 mx, .int .i64 my] 43 (0, 0))) (by subst hMv; simp [go_sem, frv 31 y3_27]) ?_
  rw [hX1, hy4]
  obtain ⟨y5, hy5⟩ : ∃ f, upd y4 29 (.slice (some ⟨g2, 0, none⟩) (j + 1) c2) = f := ⟨_, rfl⟩
  have y5_6 : y5 6 = .pointer (some ⟨b2, 0, none⟩) := hy5 ▸ (upd_other _ _ (by decide)).trans y4_6
  have y5_29 : y5 29 = .slice (some ⟨g2, 0, none⟩) (j + 1) c2 := hy5 ▸ upd_same _ _ _
  refine inQ_valW (o := _) rfl rfl (fun _ h => nomatch h) rfl (run_appendOp (fr_ev y4_25) (fr_ev y4_28) ra) ?_
  rw [hy5]
  refine inQ_skip (o := _) rfl rfl (fun _ h => nomatch h) rfl (run_seg rfl (fr_ev y5_6) (fr_ev y5_29) h3x rfl rfl rfl rfl) ?_
  exact ⟨rfl, _, hcv, hkp, hgr⟩
 case hdone =>
  intro D G' Z hD hnD hIZ hdZ
  have hCZ := hIZ
  obtain ⟨h1, h2, a, c, h3, h4, h5, h6⟩ := hIZ
  have eD : ({ fr 31 g4 with defers := { target := .collected D, args := #[] } :: (fr 31 g4).defers } : Act) = frD [mkD D] 31 g4 := rfl
  rw [eD]
  have hDb : D ≠ b2 := fun e => by rw [e, h3] at hdZ; cases hdZ
  refine inBlock_normal ?_
  refine hK6 _ _ ?_
  refine wp_seq_k fun K8 hK8 => ?_
  refine region_doD 3 [(30, 0), (7, 2)] [[], [0], [0, 1]] (rel [is (.slice (a) (n) (c)),
   is (undef),
   is (.int .i64 0)]) (by kernel_rfl) (by kernel_rfl) (by kernel_rfl) (by kernel_rfl)
   ⟨is_k, is_k, is_k, trivial⟩
   ⟨fun f s W m q u y z d => opv rfl rfl (by simp [go_sem, d.e 6 k2', cb h3 m 0]) rfl,
  fun f s W m q u y z d => ops_same rfl ⟨rfl, rfl⟩ (run_seg (setRow_self W _ _ _ _ (blk_below h3 m)).symm (d.v 6 k2') (d.v 30 (q 0 rfl)) (blk_below h3 m) rfl rfl rfl rfl),
  fun f s W m q u y z d => opv rfl rfl (by simp [go_sem]) rfl, trivial⟩ ?_
  intro f5 s5 W5 hB5
  have fB5 := hB5.f h1
  have z5 := hB5.below.size
  have b5_0 := hB5.b h3
  have q6' := (hB5.b hdZ)
  have q7' := (below_trans (Below.refl Z.heap.size Z) hB5.below)
  refine hK8 _ _ ?_
  generalize hg5 : ov [(30, 0), (7, 2)] f5 g4 = g5
  have k5_6 := kt hg5 6 k2'
  have k5_7 := kt hg5 7 (hB5.is 2)
  refine wp_ret ?_
  have h3D := (World.putObj_heap_other (w := W5) (o := .deferred none) (show b2 ≠ D from fun e => hDb e.symm)).trans b5_0
  refine leave_markc (v := .tuple #[.slice a n c, .int .i64 0]) (.inr rfl) rfl rfl q6' (by simp [results, Try.results8, go_sem, frD_evv (N := 31) (ds := [mkD D]) k5_6, frD_evv (N := 31) (ds := [mkD D]) k5_7, cl h3D 0]) ?_
  have hput := Below.trans fB5 (below_put (W := W5) (l := D) (o := .deferred none) (by omega))
  have hkF : KeepP (fun b => b = bk ∨ (V ≤ b ∧ ¬ G' b)) Z (W5.putObj D (.deferred none)) := (KeepP.of_below q7').trans ⟨rfl, rfl, rfl, by rw [putObj_size]; exact Nat.le_refl _, fun k x hk hx => (World.putObj_heap_other (fun e => hk (.inr (by subst e; exact ⟨by omega, hnD⟩)))).trans hx⟩
  have hCe := colV_stab (by omega) (by omega) (fun b h => by subst h; exact ⟨hl2_, by omega, fun e => hnek_ (e.trans hb2.symm)⟩) _ _ _ _ hCZ hkF
  exact ⟨_, rfl, colV_sp gn0 hCe (h3D), hput⟩
end Go.Proofs.Ytcgccflcjejlhaa
