/- Part of the proof: what the claim leans on. -/
import Derived.Test.YtcgccflcjejlhaaVAO
import Derived.Test.YtcgccflcjejlhaaVAM
import Derived.Test.YtcgccflcjejlhaaVAI
import Derived.Test.YtcgccflcjejlhaaVAS
set_option maxHeartbeats 8000000
set_option maxRecDepth 100000
set_option linter.unusedSimpArgs false
set_option linter.unusedVariables false
namespace Go.Proofs.Ytcgccflcjejlhaa
open Go.RowKit
def SuC (B : Nat) (W : World) (xs : Nat → List Int × Int) (k : Nat) (cs : List Value) : Prop := cs.length = k * 2 ∧ ∀ j, j < k → ∃ g c, cs[j * 2]? = some (.slice (some ⟨g, 0, none⟩) (xs j).1.length c) ∧ cs[j * 2 + 1]? = some (.int .i64 (xs j).2) ∧ OwnI B (xs j).1 g c W
theorem SuC.below {B k : Nat} {xs : Nat → List Int × Int} {cs : List Value} {W W' : World} (h : SuC B W xs k cs) (hb : Below W.heap.size W W') : SuC B W' xs k cs :=
  ⟨h.1, fun j hj => by obtain ⟨g, c, e1, e2, e3⟩ := h.2 j hj; exact ⟨g, c, e1, e2, e3.below hb⟩⟩
theorem OwnI.otherN {B B' n c g c' : Nat} {xs : List Int} {cs : List Value} {a : Option Addr} {T : TypeId} {z : Nat} {W W' : World} (h : OwnI B xs g c W) (h' : OwnN T z B' n cs a c' W) (hot : ∀ k y, (∀ g, a = some ⟨g, 0, none⟩ → g ≠ k) → W.heap[k]? = some y → W'.heap[k]? = some y) (hz : W.heap.size ≤ W'.heap.size) (hT : (3 != T) = true := by decide) : OwnI B xs g c W' := by
  have := OwnN.otherN (.inr ⟨g, rfl, h⟩) h' hot hz hT
  rcases this with ⟨e, -⟩ | ⟨g', e, h2⟩
  · cases e
  · cases e; exact h2
theorem SuC.snoc {B k n c' g c : Nat} {xs : Nat → List Int × Int} {cs cs0 : List Value} {a : Option Addr} {T : TypeId} {z B' : Nat} {W W' : World} (h : SuC B W xs k cs) (h' : OwnN T z B' n cs0 a c' W) (hot : ∀ k y, (∀ g, a = some ⟨g, 0, none⟩ → g ≠ k) → W.heap[k]? = some y → W'.heap[k]? = some y) (hz : W.heap.size ≤ W'.heap.size)
    (hg : OwnI B (xs k).1 g c W) (hT : (3 != T) = true := by decide) : SuC B W' xs (k + 1) (cs ++ [.slice (some ⟨g, 0, none⟩) (xs k).1.length c, .int .i64 (xs k).2]) := by
  refine ⟨by simp [h.1]; omega, fun j hj => ?_⟩
  have hl := h.1
  rcases Nat.lt_or_ge j k with hj' | hj'
  · obtain ⟨g, c, e1, e2, e3⟩ := h.2 j hj'
    exact ⟨g, c, by rw [List.getElem?_append_left (by omega)]; exact e1, by rw [List.getElem?_append_left (by omega)]; exact e2, e3.otherN h' hot hz hT⟩
  · obtain rfl : j = k := by omega
    exact ⟨g, c, by rw [List.getElem?_append_right (by omega), hl, Nat.sub_self]; rfl, by rw [List.getElem?_append_right (by omega), hl, Nat.add_sub_cancel_left]; rfl, hg.otherN h' hot hz hT⟩
theorem SuC.other {B k b : Nat} {xs : Nat → List Int × Int} {cs : List Value} {cs0 : Array Value} {T' : TypeId} {W W' : World} (h : SuC B W xs k cs) (hot : ∀ k x, k ≠ b → W.heap[k]? = some x → W'.heap[k]? = some x) (hb : W.heap[b]? = some (.cells cs0 T' (0, 0))) (hz : W.heap.size ≤ W'.heap.size) (hT : (T' != 3) = true := by decide) : SuC B W' xs k cs :=
  ⟨h.1, fun j hj => by
    obtain ⟨g, c, e1, e2, e3⟩ := h.2 j hj
    exact ⟨g, c, e1, e2, e3.other hot (ownN_ne (.inr ⟨g, rfl, e3⟩) hb hT g rfl) hz⟩⟩
def SuR (W : World) (b o n : Nat) (xs : Nat → List Int × Int) (ad : Nat → Option Addr) (cp : Nat → Nat) : Prop := (0 < n → b < W.heap.size) ∧ ∀ j, j < n → W.cell? ⟨b, o + j * 2, none⟩ = some (.slice (ad j) (xs j).1.length (cp j)) ∧ W.cell? ⟨b, o + j * 2 + 1, none⟩ = some (.int .i64 (xs j).2) ∧ Ii W (ad j) (xs j).1.length (cp j) (xs j).1
theorem SuR.below {W W' : World} {b o n : Nat} {xs : Nat → List Int × Int} {ad : Nat → Option Addr} {cp : Nat → Nat} (h : SuR W b o n xs ad cp) (hb : Below W.heap.size W W') : SuR W' b o n xs ad cp :=
  ⟨fun h0 => Nat.lt_of_lt_of_le (h.1 h0) hb.size, fun j hj => ⟨(hb.cell (p := ⟨b, o + j * 2, none⟩) (h.1 (by omega))).trans (h.2 j hj).1, (hb.cell (p := ⟨b, o + j * 2 + 1, none⟩) (h.1 (by omega))).trans (h.2 j hj).2.1, (h.2 j hj).2.2.below hb (Nat.le_refl _)⟩⟩
def IsPlan (n : Nat) (xs : Nat → List Int × Int) (v : Value) (W : World) : Prop := ∃ a c b o ad cp, v = .slice a n c ∧ n ≤ c ∧ (0 < n → a = some ⟨b, o, none⟩) ∧ SuR W b o n xs ad cp
theorem IsPlan.below {n : Nat} {xs : Nat → List Int × Int} {v : Value} {W W' : World} (h : IsPlan n xs v W) (hb : Below W.heap.size W W') : IsPlan n xs v W' := by
  obtain ⟨a, c, b, o, ad, cp, e, h1, h2, h3⟩ := h; exact ⟨a, c, b, o, ad, cp, e, h1, h2, h3.below hb⟩
theorem SuC.plan {B n c : Nat} {xs : Nat → List Int × Int} {cs : List Value} {a : Option Addr} {W : World} (h : SuC B W xs n cs) (hr : OwnN 74 2 B n cs a c W) : IsPlan n xs (.slice a n c) W := by
  have hx : ∀ j : Nat, ∃ q : Nat × Nat, j < n → cs[j * 2]? = some (.slice (some ⟨q.1, 0, none⟩) (xs j).1.length q.2) ∧ cs[j * 2 + 1]? = some (.int .i64 (xs j).2) ∧ OwnI B (xs j).1 q.1 q.2 W := fun j => by
    by_cases hj : j < n
    · obtain ⟨g, c, e1, e2, e3⟩ := h.2 j hj; exact ⟨(g, c), fun _ => ⟨e1, e2, e3⟩⟩
    · exact ⟨(0, 0), fun h => absurd h hj⟩
  have hq : ∃ q : Nat → Nat × Nat, ∀ j, j < n → cs[j * 2]? = some (.slice (some ⟨(q j).1, 0, none⟩) (xs j).1.length (q j).2) ∧ cs[j * 2 + 1]? = some (.int .i64 (xs j).2) ∧ OwnI B (xs j).1 (q j).1 (q j).2 W := ⟨fun j => Classical.choose (hx j), fun j => Classical.choose_spec (hx j)⟩
  obtain ⟨q, hq⟩ := hq
  rcases hr with ⟨rfl, rfl, rfl, rfl⟩ | ⟨g, rfl, hr⟩
  · exact ⟨none, 0, 0, 0, fun _ => none, fun _ => 0, rfl, Nat.le_refl _, fun h => by omega, fun h => by omega, fun j hj => by omega⟩
  · refine ⟨some ⟨g, 0, none⟩, c, g, 0, fun j => some ⟨(q j).1, 0, none⟩, fun j => (q j).2, rfl, (hr.rowA (bs := g + 1) h.1 (by omega)).2, fun _ => rfl, fun _ => hr.2.1, fun j hj => ?_⟩
    obtain ⟨e1, e2, e3⟩ := hq j hj
    rw [Nat.zero_add]
    exact ⟨hr.cell _ e1, hr.cell _ e2, e3.ii⟩
def AgS (B : Nat) (x : List Int × Int) (v : Value) (W : World) : Prop := ∃ g c, v = .agg #[.slice (some ⟨g, 0, none⟩) x.1.length c, .int .i64 x.2] ∧ OwnI B x.1 g c W
theorem AgS.below {B : Nat} {x : List Int × Int} {v : Value} {W W' : World} (h : AgS B x v W) (hb : Below W.heap.size W W') : AgS B x v W' := by
  obtain ⟨g, c, e, h⟩ := h; exact ⟨g, c, e, h.below hb⟩
def RwS (B : Nat) (x : List Int × Int) (v : Value) (W : World) : Prop := ∃ b g c, v = .slice (some ⟨b, 0, none⟩) 1 1 ∧ W.heap[b]? = some (.cells #[.slice (some ⟨g, 0, none⟩) x.1.length c, .int .i64 x.2] 74 (0, 0)) ∧ OwnI B x.1 g c W
theorem RwS.below {B : Nat} {x : List Int × Int} {v : Value} {W W' : World} (h : RwS B x v W) (hb : Below W.heap.size W W') : RwS B x v W' := by
  obtain ⟨b, g, c, e, h1, h2⟩ := h; exact ⟨b, g, c, e, bwb h1 hb, h2.below hb⟩
theorem trOwn_any (n c bq oq : Nat) (al : Option Addr) (xs : Nat → List Int × Int) (ad : Nat → Option Addr) (cp : Nat → Nat) (w : World) (hal : 0 < n → al = some ⟨bq, oq, none⟩) (hS : SuR w bq oq n xs ad cp) (hn : n ≤ 1000) (hxl : ∀ j, j < n → 1 ≤ (xs j).1.length ∧ (xs j).1.length ≤ 1000) :
  Calls Try.prog 32 #[.slice al n c] w (fun e w' => ∃ v, e = .returned v ∧ IsPlan n xs v w' ∧ Below w.heap.size w w') := by
 refine calls_fr Try.func32 Try.ntmps32 rfl rfl fun g hg => ?_
 have k0 : g 0 = .slice al n c := hg 0
 clear hg
 have fB0 : Below w.heap.size w w := Below.refl _ _
 refine rw_ 1 [(2, 0)] [[]] (rel [is (.slice none 0 0)])
  ⟨fun f s W d i l m p a => opv rfl rfl (by simp [go_sem]) rfl, trivial⟩ ?_
 intro f1 s1 W1 hB1 g1 hg1 z1
 have k1_0 := kt hg1 0 k0
 refine wp_seq_k fun K2 hK2 => ?_
 refine rw_ 3 [(5, 0), (6, 1), (7, 2)] [[], [0], []] (rel [is (.slice al n c), iI ((n : Int)), iI 0])
  ⟨fun f s W d i l m p a => opm (a.v 0 k1_0),
  fun f s W d i l m p a => opv rfl rfl (by simp [go_sem, a.e 5 (i 0 rfl)]) rfl,
  fun f s W d i l m p a => opz, trivial⟩ ?_
 intro f2 s2 W2 hB2 g2 hg2 z2
 have fB2 := hB2.f (hB1.f fB0)
 have k2_2 := kt hg2 2 (kt hg1 2 (hB1.is 0))
 have k2_5 := kt hg2 5 (hB2.is 0)
 have k2_6 := kt hg2 6 (hB2.is 1)
 have k2_7 := kt hg2 7 (hB2.is 2)
 have on0 : OwnN 74 2 w.heap.size 0 [] none 0 W2 := ownN_nil
 have su0 : SuC w.heap.size W2 xs 0 [] := ⟨rfl, fun j hj => absurd hj (Nat.not_lt_zero _)⟩
 refine wp_block ?_
 refine wp_loop_n (fun m_ a_ W_ => ∃ g_ : Nat → Value, a_ = fr 22 g_ ∧ (∃ k : Nat, ∃ aq : Option Addr, ∃ cq : Nat, ∃ cs : List Value, m_ = n - k ∧ g_ 5 = .slice al n c ∧ g_ 6 = .int .i64 ((n : Int)) ∧ g_ 7 = .int .i64 ((k : Int)) ∧ g_ 2 = .slice aq k cq ∧ Below w.heap.size w W_ ∧ W2.heap.size ≤ W_.heap.size ∧ OwnN 74 2 w.heap.size k cs aq cq W_ ∧ SuC w.heap.size W_ xs k cs ∧ (k ≤ n))) ⟨_, g2, rfl, 0, none, 0, [], rfl, k2_5, k2_6, k2_7.trans (by rfl), k2_2.trans (by rfl), fB2, Nat.le_refl _, on0, su0, (by omega)⟩ ?_
 rintro _ _ W_1 ⟨g_1, rfl, k, aq, cq, cs, rfl, k_1_5, k_1_6, k_1_7, k_1_2, fB_1, z_1, q2', q3', lk0⟩
 refine rw_ 1 [(8, 0)] [[]] (rel [iB (decide ((k : Int) < (n : Int)))])
  ⟨fun f s W d i l m p a => opv rfl rfl (by simp [go_sem, a.e 7 k_1_7, a.e 6 k_1_6]) rfl, trivial⟩ ?_
 intro f3 s3 W3 hB3 g3 hg3 z3
 have fB3 := hB3.f fB_1
 have q4' := (q2'.below hB3.below)
 have q5' := (q3'.below hB3.below)
 have k3_5 := kt hg3 5 k_1_5
 have k3_7 := kt hg3 7 k_1_7
 have k3_2 := kt hg3 2 k_1_2
 have k3_8 := kt hg3 8 (hB3.is 0)
 refine wp_seq_k fun K5 hK5 => ?_
 refine wp_cond_split (t := decide ((k : Int) < (n : Int))) ((fr_eval rfl).trans k3_8) (fun hc6 => ?_) (fun hc6 => ?_)
 ·
  have hc6' := hc6; try simp only [ba] at hc6'
  have hkn : k < n := by omega
  have limA := OwnN.lim q4'
  refine wp_skip ?_
  refine hK5 _ _ ?_
  refine wp_seq_k fun K7 hK7 => ?_
  refine wp_block ?_
  refine wp_seq_k fun K8 hK8 => ?_
  refine ry 3 [(9, 0), (10, 1), (4, 2)] [[], [0], [], [0, 1, 2]] (rel [is (.pointer (some ⟨bq, oq + k * 2, none⟩)), is (.agg #[.slice ((ad k)) ((xs k).1.length) ((cp k)), .int .i64 ((xs k).2)]), bx 2 #[.slice none 0 0, .int .i64 0] 74])
   ⟨fun f s W d i l m p a => by have hab := hal (by omega); have li_ := Nat.not_le.2 (show k < n by omega); have li2_ : (k : Int) < (n : Int) := (by omega); exact opv rfl rfl (by simp [go_sem, a.e 5 k3_5, a.e 7 k3_7, hab, li_, li2_]) rfl,
  fun f s W d i l m p a => by have q := bwt fB3 d; have cu_ := (hS.below q).2 k (by omega); have cu0_ := cu_.1; have cu1_ := cu_.2.1; exact opv rfl rfl (by simp [go_sem, a.e 9 (i 0 rfl), cu0_, cu1_]) rfl,
  fun f s W d i l m p a => opb rfl rfl (by simp [go_sem]), trivial⟩ ?_
  intro f4 s4 W4 hB4 g4 hg4 z4
  have fB4 := hB4.f fB3
  have q6' := (q4'.below hB4.below)
  have q7' := (q5'.below hB4.below)
  obtain ⟨r4_2, br4_2⟩ := hB4.is 2
  have lr4_2 := hB4.lr 2 br4_2
  have k4_2 := kt hg4 2 k3_2
  have k4_10 := kt hg4 10 (hB4.is 1)
  have k4_4 := kt hg4 4 r4_2
  obtain ⟨W5, hW5⟩ : ∃ W', W' = W4.setRow (s4 2) #[.slice ((ad k)) ((xs k).1.length) ((cp k)), .int .i64 ((xs k).2)] := ⟨_, rfl⟩
  refine tsk (o := _) rfl ⟨rfl, rfl⟩ (run_seg hW5 (fr_ev k4_4) (fr_ev k4_10) br4_2 rfl rfl rfl rfl) ?_
  obtain ⟨fB5, nb5, ot5, z5⟩ := sgf hW5 fB4 br4_2 (by omega)
  clear hW5
  have q8' := q6'.other ot5 (fun g e => by have := limA g e; omega) z5
  have q9' := q7'.other ot5 (br4_2) z5
  refine wpe ?_
  refine hK8 _ _ ?_
  refine rz 8 [(11, 0), (12, 1), (13, 2), (14, 3), (15, 4), (16, 5), (17, 6), (18, 7), (19, 8), (2, 9)] [[], [], [1], [1, 2], [], [4], [1, 3, 4, 5], [1, 4, 5, 6], [0, 1, 2, 3, 4, 5, 6, 7], [0, 1, 2, 3, 4, 5, 6, 7, 8]] (rel [is (.slice aq k cq), is (.pointer (some ⟨(s4 2), 0, none⟩)), is (.slice ((ad k)) ((xs k).1.length) ((cp k))), ab fun v W => OwI w.heap.size (xs k).1 (xs k).1.length v W, is (.pointer (some ⟨(s4 2), 1, none⟩)), iI ((xs k).2), ab fun v W => AgS w.heap.size (xs k) v W, ab fun v W => RwS w.heap.size (xs k) v W])
   ⟨is_k, is_k, is_k, ab_k fun v W W' hb h => h.below hb, is_k, is_k, ab_k fun v W W' hb h => h.below hb, ab_k fun v W W' hb h => h.below hb, trivial⟩
   ⟨fun f s W d i l m p a => opm (a.v 2 ((m 9 2 rfl rfl).trans k4_2)),
  fun f s W d i l m p a => opv rfl rfl (by simp [go_sem, a.e 4 k4_4]) rfl,
  fun f s W d i l m p a => opv rfl rfl (by simp [go_sem, a.e 12 (i 1 rfl), cb nb5 d 0]) rfl,
  fun f s W d i l m p a => by have q := bwt fB5 d; exact opd rfl rfl (by simp [go_sem, a.e 13 (i 2 rfl)]) (clone_own (ad k) (xs k).1.length (cp k) (xs k).1 W ((hS.below q).2 k (by omega)).2.2 (hxl k (by omega))) ((fun e W' h => by obtain ⟨v, e1, ⟨g_, c_, e2, h1⟩, h2⟩ := h; exact ⟨v, e1, h2, ⟨g_, c_, e2, h1.low q.size⟩⟩)),
  fun f s W d i l m p a => opv rfl rfl (by simp [go_sem, a.e 4 k4_4]) rfl,
  fun f s W d i l m p a => opv rfl rfl (by simp [go_sem, a.e 15 (i 4 rfl), cb nb5 d 1]) rfl,
  fun f s W d i l m p a => by obtain ⟨g10', c11', d3, q12'⟩ := (i 3 rfl); exact opv (v := (.agg #[.slice (some ⟨g10', 0, none⟩) ((xs k).1.length) (c11'), .int .i64 ((xs k).2)])) rfl rfl (by simp [go_sem, a.e 14 d3, a.e 16 (i 5 rfl)]) ⟨_, _, rfl, q12'⟩,
  fun f s W d i l m p a => by obtain ⟨g13', c14', d6, q15'⟩ := (i 6 rfl); exact opDo_value (v := .slice (some ⟨W.heap.size, 0, none⟩) 1 1) rfl rfl (by simp [go_sem, a.e 17 d6]) (balloc1 _ _) ⟨_, _, _, rfl, blk_new rfl, q15'.below (balloc1 _ _)⟩, trivial⟩ ?_
  intro f6 s6 W6 hB6 g6 hg6 z6
  have fB6 := hB6.f fB5
  have q16' := (q8'.below hB6.below)
  have q17' := (q9'.below hB6.below)
  obtain ⟨b18', g19', c20', r6_7, q21', q22'⟩ := hB6.is 7
  have k6_11 := kt hg6 11 (hB6.is 0)
  have k6_18 := kt hg6 18 r6_7
  obtain ⟨ga7, ca7, W7, ra7, ow7, ot7, z7, gg7, fB7⟩ := growN_tail 66 66 74 2 32 _ (by kernel_rfl) infoS rfl (cs ++ [.slice (some ⟨g19', 0, none⟩) ((xs k).1.length) (c20'), .int .i64 ((xs k).2)]) (k + 1) (off := 0) (k := 1) (c' := 1) [.slice (some ⟨g19', 0, none⟩) ((xs k).1.length) (c20'), .int .i64 ((xs k).2)] fB6 q16' rfl rfl rfl rfl (cells_at q21') (by omega)
  have su7 := SuC.snoc q17' q16' ot7 z7 q22'
  refine tail_value2 (o := _) rfl rfl rfl (run_appendOp (fr_ev k6_11) (fr_ev k6_18) ra7) ?_
  have on7 : OwnN 74 2 w.heap.size (k + 1) (cs ++ [.slice (some ⟨g19', 0, none⟩) ((xs k).1.length) (c20'), .int .i64 ((xs k).2)]) (some ⟨ga7, 0, none⟩) ca7 W7 := .inr ⟨_, rfl, ow7⟩
  generalize hg7 : upd g6 19 (.slice (some ⟨ga7, 0, none⟩) ((k + 1)) (ca7)) = g7
  have k7_19 := kt hg7 19 (upd_same _ _ _)
  refine tail_value (o := _) rfl rfl rfl (v := .slice (some ⟨ga7, 0, none⟩) ((k + 1)) (ca7)) (by simp [go_sem, frv 22 k7_19]) ?_
  generalize hg8 : upd g7 2 (.slice (some ⟨ga7, 0, none⟩) ((k + 1)) (ca7)) = g8
  have k8_7 := ku hg8 7 (ku hg7 7 (kt hg6 7 (kt hg4 7 k3_7)))
  refine wpe ?_
  refine ibn ?_
  refine hK7 _ _ ?_
  refine ry 2 [(20, 0), (7, 1)] [[], [0]] (rel [iI ((k : Int) + 1), iI ((k : Int) + 1)])
   ⟨fun f s W d i l m p a => opv rfl rfl (by simp [go_sem, a.e 7 ((m 1 7 rfl rfl).trans k8_7), IntWalk.i64_in ((k : Int) + 1) (by omega)]) rfl,
  fun f s W d i l m p a => opm (a.v 20 (i 0 rfl)), trivial⟩ ?_
  intro f9 s9 W9 hB9 g9 hg9 z9
  have fB9 := hB9.f fB7
  have q23' := (on7.below hB9.below)
  have q24' := (su7.below hB9.below)
  refine wpe ?_
  have k9_5 := kt hg9 5 (ku hg8 5 (ku hg7 5 (kt hg6 5 (kt hg4 5 k3_5))))
  have k9_6 := kt hg9 6 (ku hg8 6 (ku hg7 6 (kt hg6 6 (kt hg4 6 (kt hg3 6 k_1_6)))))
  have k9_2 := kt hg9 2 (kt hg8 2 (upd_same _ _ _))
  have k9_7 := kt hg9 7 (hB9.is 1)
  refine then_normal ?_
  exact ⟨_, by omega, g9, rfl, k + 1, some ⟨ga7, 0, none⟩, ca7, (cs ++ [.slice (some ⟨g19', 0, none⟩) ((xs k).1.length) (c20'), .int .i64 ((xs k).2)]), rfl, k9_5, k9_6, k9_7.trans (by go_num), k9_2.trans (by go_num), fB9, (by omega), q23', q24', (by omega)⟩
 ·
  have hc6' := hc6; try simp only [ba] at hc6'
  have hkn : k = n := by omega
  refine wp_exit ?_
  refine then_exit ?_
  refine then_exit ?_
  refine inBlock_at ?_
  refine hK2 _ _ ?_
  refine rw_ 2 [(21, 0), (2, 1)] [[], [0]] (rel [is (.slice aq k cq), is (.slice aq k cq)])
   ⟨fun f s W d i l m p a => opm (a.v 2 ((m 1 2 rfl rfl).trans k3_2)),
  fun f s W d i l m p a => opm (a.v 21 (i 0 rfl)), trivial⟩ ?_
  intro f10 s10 W10 hB10 g10 hg10 z10
  have fB10 := hB10.f fB3
  have q25' := (q4'.below hB10.below)
  have q26' := (q5'.below hB10.below)
  have k10_2 := kt hg10 2 (hB10.is 1)
  refine wp_ret ?_
  refine leave_one (N := 22) (.inr rfl) Try.results32 rfl k10_2 ?_
  have e_ : k = n := by omega
  subst e_
  exact ⟨_, rfl, SuC.plan q26' q25', fB10⟩
open Go.RowKit
theorem infoO : (Try.prog.info? 65).map (fun i => (i.zero, i.size, i.bytes)) = some (some (.agg #[.int .i64 0, .int .i64 0, .int .i64 0]), 3, 24) := by kernel_rfl
theorem ownR_empty {W : World} {T : TypeId} {z B b : Nat} (h : W.heap[b]? = some (.cells #[] T (0, 0))) (hB : B ≤ b) : OwnR T z B 0 [] b 0 W :=
  ⟨hB, ltb h, by simp, .inr ⟨b, 0, #[], rfl, hB, h, Nat.le_refl _, by unfold maxLen; omega, by simp, by simp⟩⟩
theorem OwnR.ordR {B g c : Nat} {os : Nat → To} {W : World} {cs : List Value} (h : OwnR 65 3 B 3 cs g c W) (hc : ∀ i, i < 3 → cs[i * 3]? = some (.int .i64 (os i).wd) ∧ cs[i * 3 + 1]? = some (.int .i64 (os i).lo) ∧ cs[i * 3 + 2]? = some (.int .i64 (os i).hi)) : OrdR W g 0 3 os :=
  ⟨h.2.1, fun i hi => by rw [Nat.zero_add]; exact ⟨h.cell _ (hc i hi).1, h.cell _ (hc i hi).2.1, h.cell _ (hc i hi).2.2⟩⟩
def IsOrd (n : Nat) (os : Nat → To) (v : Value) (W : World) : Prop := ∃ g c, v = .slice (some ⟨g, 0, none⟩) n c ∧ OrdR W g 0 n os
theorem IsOrd.below {n : Nat} {os : Nat → To} {v : Value} {W W' : World} (h : IsOrd n os v W) (hb : Below W.heap.size W W') : IsOrd n os v W' := by
  obtain ⟨g, c, e, h⟩ := h; exact ⟨g, c, e, h.below hb⟩
def orC (os : Nat → To) : Nat → List Value
  | 0 => []
  | n + 1 => orC os n ++ [.int .i64 (os n).wd, .int .i64 (os n).lo, .int .i64 (os n).hi]
theorem orC_len (os : Nat → To) : ∀ n, (orC os n).length = n * 3
  | 0 => rfl
  | n + 1 => by rw [orC, List.length_append, orC_len os n]; show n * 3 + 3 = _; omega
theorem orC_at (os : Nat → To) : ∀ (n i : Nat), i < n → (orC os n)[i * 3]? = some (.int .i64 (os i).wd) ∧ (orC os n)[i * 3 + 1]? = some (.int .i64 (os i).lo) ∧ (orC os n)[i * 3 + 2]? = some (.int .i64 (os i).hi)
  | 0, _, h => absurd h (Nat.not_lt_zero _)
  | n + 1, i, h => by
    have hl := orC_len os n
    rw [orC]
    by_cases e : i = n
    · subst e
      rw [List.getElem?_append_right (by omega), List.getElem?_append_right (by omega), List.getElem?_append_right (by omega), hl, Nat.sub_self, Nat.add_sub_cancel_left, Nat.add_sub_cancel_left]
      exact ⟨rfl, rfl, rfl⟩
    · rw [List.getElem?_append_left (by omega), List.getElem?_append_left (by omega), List.getElem?_append_left (by omega)]
      exact orC_at os n i (by omega)
theorem OrdR.cells {W : World} {b o n : Nat} {os : Nat → To} (h : OrdR W b o n os) : ∀ j u, (orC os n)[j]? = some u → W.cell? ⟨b, o + j, none⟩ = some u := by
  intro j u hj
  have hlt : j < n * 3 := by
    rcases Nat.lt_or_ge j (n * 3) with h' | h'
    · exact h'
    · rw [List.getElem?_eq_none (by rw [orC_len]; exact h')] at hj; cases hj
  obtain ⟨i, r, hi, hr, rfl⟩ : ∃ i r, i < n ∧ r < 3 ∧ j = i * 3 + r := ⟨j / 3, j % 3, by omega, by omega, by omega⟩
  obtain ⟨h1, h2, h3⟩ := orC_at os n i hi
  obtain ⟨k1, k2, k3⟩ := h.2 i hi
  match r, hr with
  | 0, _ => rw [Nat.add_zero] at hj ⊢; rw [h1] at hj; cases hj; exact k1
  | 1, _ => rw [h2] at hj; cases hj; rw [← Nat.add_assoc]; exact k2
  | 2, _ => rw [h3] at hj; cases hj; rw [← Nat.add_assoc]; exact k3
theorem cloneO3 (ty : TypeId) {W : World} {b o n c g : Nat} {os : Nat → To} (h : OrdR W b o n os) (h0 : 0 < n) (hn : n ≤ 1000) :
    ∃ v' W', (Builtin.append_ #[62, 62] ty #[.slice (some ⟨g, 0, none⟩) 0 0, .slice (some ⟨b, o, none⟩) n c]).run Try.prog W = .ok v' W' ∧ Below W.heap.size W W' ∧ IsOrd n os v' W' := by
  obtain ⟨v, W', hr, hb', g', c', rfl, ho⟩ := cloneR_run 62 ty 65 3 24 (.agg #[.int .i64 0, .int .i64 0, .int .i64 0]) (by kernel_rfl) infoO rfl W g b o n c (orC os n) (orC_len os n) h0 h.cells (by omega)
  refine ⟨_, W', hr, hb', g', c', rfl, ho.2.1, fun i hi => ?_⟩
  obtain ⟨h1, h2, h3⟩ := orC_at os n i hi
  rw [Nat.zero_add]
  exact ⟨ho.cell _ h1, ho.cell _ h2, ho.cell _ h3⟩
end Go.Proofs.Ytcgccflcjejlhaa
